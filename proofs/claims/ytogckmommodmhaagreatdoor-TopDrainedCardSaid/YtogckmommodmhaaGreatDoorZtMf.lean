import Derived.Test.YtogckmommodmhaaGreatDoorZt14
import Derived.Test.YtogckmommodmhaaGreatDoorZt13
import Derived.Test.YtogckmommodmhaaGreatDoorZt16
import Derived.Test.YtogckmommodmhaaGreatDoorZtMa
set_option maxHeartbeats 16000000
namespace Go.Proofs.YtogckmommodmhaaGreatDoor
open Go.RowKit
set_option linter.all false
set_option linter.unusedSimpArgs false
set_option maxRecDepth 100000
section
variable {h h0 h1 ex ex':List (Nat × Bk)} {m n n' b:Nat}
theorem Qzx {f g:Nat→Nat} {m:Nat} (h:∀ b,b < m→f b=g b) {x:Bk} (hx:bG m x):Xg f x=Xg g x:=Wv h hx
end
section
variable {P:Program}
theorem Xjv {gl : Nat → AV} {f : FuncId} {fn : Func} {code : Code} {t : TC} {rs : List RS} {args : List AV} {aI : List (Nat × Bk)} {m : Nat} {r : AV} {ax : List (Nat × Bk)} {n : Nat} (hm : P.follows .mixedOrders = true) (hf : P.funcs[f]? = some fn) (hb : fn.body = some code) (dQ : (fn.name == "runtime.NumGoroutine") = false)
  (he:Jh P fn.ntmps code=some t) (hr:m9 P fn.results.toList=some rs) (hN:args.length≤fn.ntmps) (aP:∀ q ∈ aI,q.2.live)
  (h:∀ c:Cx,(∀ q ∈ c.gh,q.1 ∈ List.range m)→c.gl=gl→xw P c t (EP m rs r ax n) ⟨jx 0 args,aI,m⟩):GS P gl f args aI m r ax n:=by
 refine ⟨⟨fn,hf,by rw[hb];rfl,dQ⟩,fun w vs G X g jM hv=>?_⟩
 refine calls_of_wp hf hb ?_
 have js:∀ b,b < m→g b≠.un:=fun b hU e=>by
  have:=jM.h b
  rw[e]at this
  have hh:(cW aI m).H b=Qc aI m b:=rfl
  rw[hh]at this
  rcases Zx aI m b with q|⟨q0,hp,_,q⟩
  ·rw[q,if_pos hU]at this;cases this;rename_i h;exact h rfl
  ·rw[q]at this
   have hl:=aP q0 hp
   cases hx:q0.2 with
   | free=>rw[hx]at hl;exact hl.elim
   | dead=>rw[hx]at hl;exact hl.elim
   | cells cs=>rw[hx]at this;cases this
   | aE kvs dn=>rw[hx]at this;cases this
   | bl kvs bs ck=>rw[hx]at this;cases this
   | iter b0 ck seen=>rw[hx]at this;cases this
   | c7 ls=>rw[hx]at this;cases this with|c7 _ h=>cases h
 have gJ:∀ q ∈ (List.range m).map (fun b=>(b,g b)),g q.1=q.2∧q.2≠.un:=fun q hp=>by
  obtain ⟨b,hU,rfl⟩:=List.mem_map.1 hp
  exact ⟨rfl,js b (List.mem_range.1 hU)⟩
 have aY:∀ q ∈ (List.range m).map (fun b=>(b,g b)),q.1 ∈ List.range m:=fun q hp=>by
  obtain ⟨b,hU,rfl⟩:=List.mem_map.1 hp
  exact hU
 have hR:=Ga (N:=fn.ntmps) hN jM hv gJ
 have:=va (c:=⟨fn.ntmps,w,G,X,gl,(List.range m).map (fun b=>(b,g b))⟩) hm code t _ _ he (h _ aY rfl) _ _ _ hR
 refine wp_mono this fun e a' w' hq=>?_
 have fin:∀ (g1:Nat→GM) (s:St),R ⟨fn.ntmps,w,G,X,gl,(List.range m).map (fun b=>(b,g b))⟩ g1 s.fs a' w'→(Wr s.fs rs∧To (List.range m) ⟨[(0,ga s.fs rs)],s.h,s.n⟩ ⟨[(0,r)],ax,n⟩) →
   a'.defers=[]∧∃ v,(results fn a'.tmps).run P w'=.ok v w'∧(∃ nd g',Ending.returned v=.returned nd∧R ⟨0,w,G,X,gl,[]⟩ g' (cW ax n) ⟨#[],[]⟩ w'∧(∀ b,b < m→g' b=g b)∧VR g' (Qo ⟨0,w,G,X,gl,[]⟩ g' (cW ax n)) w' r nd):=by
  intro g1 s bb ⟨h1,h3⟩
  obtain ⟨v,h4,h5⟩:=Cm bb hr h1
  refine ⟨bb.dI,v,h4,v,?_⟩
  have cy:R ⟨1,w,G,X,gl,(List.range m).map (fun b=>(b,g b))⟩ g1 (⟨[(0,ga s.fs rs)],s.h,s.n⟩:St).fs ⟨#[v],[]⟩ w':=by
   refine ⟨rfl,rfl,fun i=>?_,bb.gl,bb.h,bb.inj,bb.old,bb.fr,bb.xs,bb.gX⟩
   show VR g1 _ w' (look [(0,ga s.fs rs)] i) _
   rw[Zo]
   split
   ·rename_i hi;subst hi;exact h5
   ·exact .any _
  obtain ⟨g2,bV⟩:=h3 _ g1 _ _ aY cy
  refine ⟨g2,rfl,⟨rfl,rfl,fun i=>.any _,bV.gl,bV.h,bV.inj,bV.old,bV.fr,bV.xs,fun q hp=>by cases hp⟩,fun b hb=>?_,?_⟩
  ·exact (bV.gX (b,g b) (List.mem_map.2 ⟨b,List.mem_range.2 hb,rfl⟩)).1
  ·exact bV.t 0
 cases e with
 | normal=>obtain ⟨g,s,bb,cF⟩:=hq;exact fin g s bb cF
 | ret=>obtain ⟨g,s,bb,cF⟩:=hq;exact fin g s bb cF
 | exit i=>obtain ⟨g,s,bb,cF⟩:=hq;exact cF.elim
 | goto l=>exact hq.elim
 | panic ch=>exact hq.elim
 | outgrown=>exact hq.elim
theorem FT.W0 {P:Program} {gl:Nat→AV} {f:FuncId} {fn:Func} {t:TC} {rs:List RS} (hF:FT P f fn t rs) {args:List AV} {aI:List (Nat × Bk)} {m:Nat} {r:AV} {ax:List (Nat × Bk)} {n:Nat} (hN:args.length≤fn.ntmps) (aP:∀ q ∈ aI,q.2.live)
  (h:∀ c:Cx,(∀ q ∈ c.gh,q.1 ∈ List.range m)→c.gl=gl→xw P c t (EP m rs r ax n) ⟨jx 0 args,aI,m⟩):GS P gl f args aI m r ax n:=by
 have hc:=hF.code
 cases hb:fn.body with
 | none=>rw[hb]at hc;simp at hc
 | some code =>
  rw[hb]at hc
  exact Xjv hF.mixed hF.func hb hF.name hc hF.res hN aP h
end
section
variable {P:Program} {c:Cx}
theorem OT {r0:List bF} {K:St→Prop} {d:Option Nat} {f:FuncId} {xs:List TV} {args:List AV} {aI:List (Nat × Bk)} {m:Nat} {r:AV} {ax:List (Nat × Bk)} {n:Nat} {t:List (Nat × AV)} (eG:GS P c.gl f args aI m r ax n) (H:HL aI m) (H1:HL ax n) (hle:m≤n) (hr:Qe n r)
  (hc:Qv none (aG c.gl (⟨t,aI,m⟩:St).fs xs)∧(aG c.gl (⟨t,aI,m⟩:St).fs xs).map Qk=args∧ai m args) (hx:XP P c r0 K (St.bQ ⟨t,ax,n⟩ d r)):Yl P c (.pd d (.call f) xs none) r0 K ⟨t,aI,m⟩:=by
 refine .inl ⟨_,_,KG (σ:=fun b=>b) (N:=List.range n) (args:=args) eG (fun o ys aJ tM s2 g a w hT hR=>?_) (fun b b' _ _ e=>e) (fun p hp=>⟨(H.mem p hp).1,(H.mem p hp).2,?_⟩) (fun b hb=>H.fN b hb) hle (fun b h1 h2=>?_) (fun p hp=>H1.mem p hp) hr hc.2.2 (fun b hb=>List.mem_range.2 hb) (fun j hj=>⟨j,List.mem_range.1 hj,rfl⟩) (fun i=>?_) (fun b hb=>?_) (fun j hj=>?_),hx⟩
 ·obtain ⟨ts,bh⟩:=xd aJ
  subst tM
  have bn:aG c.gl s2 (ys.map aT)=aG c.gl (⟨t,aI,m⟩:St).fs (ys.map aT):=Yj fun i hi=>hT i hi
  have hv:=Yp (hR.aG ys) (by rw[bn];exact hc.1)
  rw[bn,hc.2.1]at hv
  refine ⟨_,xe eG.1 bh a w,?_⟩
  rw[show (fun b:Nat=>b)=id from rfl,Jp]
  exact hv
 ·show Qc aI m p.1=Xg (fun b=>b) p.2
  rw[show (fun b:Nat=>b)=id from rfl,Ws]
  exact H.self p hp
 ·show Qc aI m b=.free
  rw[H.hi m b h1,if_neg af]
 ·cases d with
  | none=>rfl
  | some d=>show look ((d,r)::t) i=_;rw[Zo];rw[qk _ (fun _=>rfl)];rfl
 ·have e:(St.bQ ⟨t,ax,n⟩ d r).fs.H b=Qc ax n b:=by cases d<;>rfl
  rw[e]
  show _=qs id (Qc ax n b)
  generalize Qc ax n b=x
  cases x<;>first|rfl|exact Ws.symm
 ·have e:(St.bQ ⟨t,ax,n⟩ d r).fs.H j=Qc ax n j:=by cases d<;>rfl
  rw[e]
  have hj:n≤j:=by simpa using hj
  rw[H1.hi n j hj,if_neg af]
  show _=Qc aI m j
  rw[H.hi m j af,if_neg af]
end
mutual
theorem BE {ρ:Nat→Nat} {n m:Nat} (h:∀ b,b < n→ρ b < m):∀ v:AV,Qe n v→Qe m (aD ρ v)
 | .dp _ v,hv=>by simp only[aD,Qe]at hv ⊢;exact BE h v hv
 | .agg cs,hv=>by simp only[aD,Qe]at hv ⊢;exact ct h cs hv
 | .aX cs,hv=>by simp only[aD,Qe]at hv ⊢;exact ct h cs hv
 | .xp cs _,hv=>by simp only[aD,Qe]at hv ⊢;exact ct h cs hv
 | .isl _ cs,hv=>by simp only[aD,Qe]at hv ⊢;exact ct h cs hv
 | .cl _ cs,hv=>by simp only[aD,Qe]at hv ⊢;exact ct h cs hv
 | .ptr b _,hv=>by simp only[aD,Qe]at hv ⊢;exact h b hv
 | .sl _ b _ _ _,hv=>by simp only[aD,Qe]at hv ⊢;exact h b hv
 | .mp b,hv=>by simp only[aD,Qe]at hv ⊢;exact h b hv
 | .int _ _,_=>by simp[aD,Qe]
 | .bool _,_=>by simp[aD,Qe]
 | .str _,_=>by simp[aD,Qe]
 | .nils,_=>by simp[aD,Qe]
 | .lit _,_=>by simp[aD,Qe]
 | .any,_=>by simp[aD,Qe]
theorem ct {ρ:Nat→Nat} {n m:Nat} (h:∀ b,b < n→ρ b < m):∀ l:List AV,ai n l→ai m (ay ρ l)
 | [],_=>by simp[ay,ai]
 | x::xs,hv=>by
  simp only[ay,ai]at hv ⊢
  exact ⟨BE h x hv.1,ct h xs hv.2⟩
end
theorem Ybr {ρ:Nat→Nat} {n m:Nat} (h:∀ b,b < n→ρ b < m) {x:Bk} (hx:bG n x):bG m (Xg ρ x):=by
 cases x with
 | cells cs=>exact ct h cs hx
 | aE kvs dn =>
  intro p hp
  obtain ⟨q,hq,rfl⟩:=List.mem_map.1 hp
  exact ⟨BE h _ (hx q hq).1,BE h _ (hx q hq).2⟩
 | bl kvs bs ck =>
  intro p hp
  obtain ⟨q,hq,rfl⟩:=List.mem_map.1 hp
  exact ⟨BE h _ (hx q hq).1,BE h _ (hx q hq).2⟩
 | iter b ck seen=>exact h b hx
 | c7 ls=>exact hx
 | free=>exact hx.elim
 | dead=>exact hx.elim
def sw (k b:Nat):Nat:=if b < 70 then k + b else b - 70
theorem OU {k b b':Nat} (h:b < 70 + k) (h':b' < 70 + k) (e:sw k b=sw k b'):b=b':=by
 unfold sw at e
 split at e<;>split at e<;>omega
theorem wD {k b:Nat} (h:b < 70 + k):sw k b < k + 70:=by
 unfold sw
 split<;>omega
theorem Xzu {k j:Nat} (h:j < k + 70):∃ b,b < 70 + k∧sw k b=j:=by
 by_cases hj:j < k
 ·exact ⟨j + 70,by omega,by unfold sw;rw[if_neg af];omega⟩
 ·exact ⟨j - k,by omega,by unfold sw;rw[if_pos af];omega⟩
theorem HL.swap {h:List (Nat × Bk)} {k:Nat} (H:HL h (70 + k)):HL (Xc (sw k) h) (k + 70) where
 mem q hq:=by
  obtain ⟨x,hx,rfl⟩:=List.mem_map.1 hq
  obtain ⟨h1,h2⟩:=H.mem x hx
  exact ⟨wD h1,Ybr (fun b hb=>wD hb) h2⟩
 fN b hb:=by
  obtain ⟨a,ha,rfl⟩:=Xzu hb
  obtain ⟨q,hq,rfl⟩:=H.fN a ha
  exact ⟨_,List.mem_map.2 ⟨q,hq,rfl⟩,rfl⟩
 self q hq:=by
  obtain ⟨x,hx,rfl⟩:=List.mem_map.1 hq
  have h1:=(H.mem x hx).1
  show Qc (Xc (sw k) h) (k + 70) (sw k x.1)=Xg (sw k) x.2
  rw[Kk (fun b b' hb bJ e=>OU hb bJ e) h1 (fun q hq=>(H.mem q hq).1) (H.fN x.1 h1),H.self x hx]
structure Bx (h:List (Nat × Bk)) (k:Nat):Prop extends HL h k where
 no:∀ q ∈ h,bG 0 q.2
theorem W1 {ρ:Nat→Nat} {x:Bk} (h:bG 0 x):Xg ρ x=x:=(Wv (g:=id) (fun j hj=>by omega) h).trans Ws
theorem Yfc {h:List (Nat × Bk)} (n j:Nat):Qc (up h) (70 + n) (j + 70)=Qc h n j:=by
 induction h with
 | nil =>
  show (if j + 70 < 70 + n then Bk.dead else Bk.free)=if j < n then .dead else .free
  by_cases h:j < n
  ·rw[if_pos h,if_pos af]
  ·rw[if_neg h,if_neg af]
 | cons q h ih =>
  show Qc ((q.1 + 70,q.2)::up h) _ _=Qc ((q.1,q.2)::h) _ _
  rw[Qd,Qd,ih]
  by_cases e:q.1=j
  ·rw[if_pos e,if_pos af]
  ·rw[if_neg e,if_neg af]
theorem Iv {n j:Nat} {B:List (Nat × Bk)}:∀ {A:List (Nat × Bk)},(∃ q ∈ A,q.1=j)→Qc (A++B) n j=Qc A n j
 | [],⟨q,hq,_⟩=>by cases hq
 | (i,x)::A,⟨q,hq,e⟩=>by
  rw[List.cons_append,Qd,Qd]
  by_cases h:i=j
  ·rw[if_pos h,if_pos h]
  ·rw[if_neg h,if_neg h]
   refine Iv ⟨q,?_,e⟩
   rcases List.mem_cons.1 hq with rfl|hq
   ·exact (h e).elim
   ·exact hq
theorem Bx.hl {h:List (Nat × Bk)} {k:Nat} (B:Bx h k) {S:NS} {T:WT} (hT:T.wf):HL (up h++Qm S T) (70 + k) where
 mem q hq:=by
  rcases List.mem_append.1 hq with hq|hq
  ·obtain ⟨x,hx,rfl⟩:=List.mem_map.1 hq
   have:=(B.mem x hx).1
   exact ⟨by show x.1 + 70 < _;omega,nH (Nat.zero_le _) (B.no x hx)⟩
  ·obtain ⟨h1,h2⟩:=(Qj hT).mem q hq
   exact ⟨by omega,nH af h2⟩
 fN b hb:=by
  by_cases h:b < 70
  ·obtain ⟨q,hq,e⟩:=(Qj (S:=S) hT).fN b h
   exact ⟨q,List.mem_append_right _ hq,e⟩
  ·obtain ⟨q,hq,e⟩:=B.fN (b - 70) af
   exact ⟨_,List.mem_append_left _ (List.mem_map.2 ⟨q,hq,rfl⟩),by show q.1 + 70=b;omega⟩
 self q hq:=by
  have ki:∀ q ∈ up h,70≤q.1:=fun q hq=>by
   obtain ⟨x,hx,rfl⟩:=List.mem_map.1 hq
   exact Nat.le_add_left _ _
  rcases List.mem_append.1 hq with hq|hq
  ·obtain ⟨x,hx,rfl⟩:=List.mem_map.1 hq
   have h1:=(B.mem x hx).1
   have h2:=B.self x hx
   show Qc (up h++Qm S T) (70 + k) (x.1 + 70)=x.2
   rw[Iv ⟨_,hq,rfl⟩,Yfc,h2]
  ·have:=((Qj hT).mem q hq).1
   rw[Xm fun y hy e=>by have:=ki y hy;omega,(Qj hT).lo this,(Qj hT).self q hq]
theorem E0 {h:List (Nat × Bk)} {k:Nat} (B:Bx h k) {S:NS} {T:WT} (hT:T.wf):Xc (sw k) (up h++Qm S T)=h++Xc (fun b=>k + b) (Qm S T):=by
 have e1:Xc (sw k) (up h++Qm S T)=Xc (sw k) (up h)++Xc (sw k) (Qm S T):=List.map_append
 have e2:Xc (sw k) (Qm S T)=Xc (fun b=>k + b) (Qm S T):=NC (Qj hT) fun b hb=>if_pos hb
 have e3:Xc (sw k) (up h)=h:=by
  unfold Xc up
  rw[List.map_map]
  refine (List.map_congr_left fun q hq=>?_).trans (List.map_id h)
  show (sw k (q.1 + 70),Xg (sw k) q.2)=q
  rw[W1 (B.no q hq)]
  unfold sw
  rw[if_neg af]
  simp
 rw[e1,e2,e3]
theorem W3 (ρ τ:Nat→Nat):∀ v:AV,aD ρ (aD τ v)=aD (fun b=>ρ (τ b)) v:=by
 intro v
 exact AV.rec (motive_1:=fun v=>aD ρ (aD τ v)=aD (fun b=>ρ (τ b)) v) (motive_2:=fun l=>ay ρ (ay τ l)=ay (fun b=>ρ (τ b)) l) (by simp[aD]) (fun b v h=>by simp[aD,h]) (fun _ _=>by simp[aD]) (fun _=>by simp[aD]) (fun _=>by simp[aD])
  (fun cs h=>by simp[aD,h]) (fun cs h=>by simp[aD,h]) (fun _ _=>by simp[aD]) (fun cs _ h=>by simp[aD,h]) (fun _ _ _ _ _=>by simp[aD]) (fun _ cs h=>by simp[aD,h]) (by simp[aD])
  (fun _ cs h=>by simp[aD,h]) (fun _=>by simp[aD]) (fun _=>by simp[aD]) (by simp[ay]) (fun x xs h1 h2=>by simp[ay,h1,h2]) v
theorem Xpu (ρ τ:Nat→Nat) (x:Bk):Xg ρ (Xg τ x)=Xg (fun b=>ρ (τ b)) x:=by
 have hl:∀ l,ay ρ (ay τ l)=ay (fun b=>ρ (τ b)) l:=fun l=>by
  rw[Yf,Yf,Yf,List.map_map]
  exact List.map_congr_left fun v _=>W3 ρ τ v
 cases x<;>simp[Xg,hl,W3,Function.comp]
theorem Bx.hk {h:List (Nat × Bk)} {k:Nat} (B:Bx h k) {S:NS} {T:WT} (hT:T.wf):HL (h++Xc (fun b=>k + b) (Qm S T)) (k + 70):=by
 rw[← E0 B hT];exact (B.hl hT).swap
theorem To.pk {h:List (Nat × Bk)} {k n:Nat} (B:Bx h k) {S:NS} {T:WT} (hT:T.wf) (hn:k + 70≤n) {d:Option Nat} {r:AV} {t t':List (Nat × AV)}
  (ht:Qu (fun j=>if j < k then j else cC (fun b=>k + b) [67] n (j - k)) (k + 70) (wq d (aD (cC (fun b=>k + b) [67] n) r) t) t'):To (List.range k) (Zq t h (Qm S T) (fun b=>k + b) [67] 70 n d r) ⟨t',h++Xc (fun b=>k + b) (Qm S T),k + 70⟩:=by
 have hs:∀ b,b < 70→cC (fun b=>k + b) [67] n b=k + 67∧b=67∨cC (fun b=>k + b) [67] n b=n + b∧b≠67:=fun b hb=>by
  by_cases e:b=67
  ·subst e;exact .inl ⟨Wm au,rfl⟩
  ·exact .inr ⟨Wp (by simpa using e),e⟩
 have bT:∀ b b',b < 70→b' < 70→cC (fun b=>k + b) [67] n b=cC (fun b=>k + b) [67] n b'→b=b':=fun b b' h1 h2 e=>by
  rcases hs b h1 with ⟨q1,q2⟩|⟨q1,q2⟩<;>rcases hs b' h2 with ⟨q3,q4⟩|⟨q3,q4⟩<;>omega
 have key:To (List.range k) ⟨wq d (aD (cC (fun b=>k + b) [67] n) r) t,h++Xc (cC (fun b=>k + b) [67] n) (Qm S T),n + 70⟩ ⟨t',h++Xc (fun b=>k + b) (Qm S T),k + 70⟩:=by
  refine To.mV _ (B.hk hT) (fun b hb=>?_) (fun b b' h1 h2 e=>?_) (fun b hb=>?_) ht
  ·have hb:=List.mem_range.1 hb
   exact ⟨if_pos hb,by omega⟩
  ·by_cases c1:b < k<;>by_cases c2:b' < k
   ·rw[if_pos c1,if_pos c2]at e;exact e
   ·rw[if_pos c1,if_neg c2]at e
    rcases hs (b' - k) (by omega) with ⟨q1,_⟩|⟨q1,_⟩<;>omega
   ·rw[if_neg c1,if_pos c2]at e
    rcases hs (b - k) (by omega) with ⟨q1,_⟩|⟨q1,_⟩<;>omega
   ·rw[if_neg c1,if_neg c2]at e
    have:=bT _ _ af af e
    omega
  ·by_cases c1:b < k
   ·rw[if_pos c1,Iv (B.fN b c1),Iv (B.fN b c1),B.lo c1 (n + 70),B.lo c1 (k + 70)]
    obtain ⟨_,q,hq,_,e⟩:=B.live c1 k
    rw[e]
    exact (W1 (B.no q hq)).symm
   ·have oZ:b - k < 70:=by omega
    have bX:∀ j,k≤j→∀ q ∈ h,q.1≠j:=fun j hj q hq e=>by have:=(B.mem q hq).1;omega
    have fy:k≤cC (fun b=>k + b) [67] n (b - k):=by rcases hs (b - k) oZ with ⟨q1,_⟩|⟨q1,_⟩<;>omega
    rw[if_neg c1,Xm (bX _ fy),Xm (bX b af),Kk bT oZ (fun q hq=>((Qj hT).mem q hq).1) ((Qj hT).fN _ oZ)]
    have eb:b=k + (b - k):=by omega
    have e2:Qc (Xc (fun b=>k + b) (Qm S T)) (k + 70) b=Xg (fun b=>k + b) (Qc (Qm S T) 70 (b - k)):=by
     conv=>lhs;rw[eb]
     exact Kk (fun b b' _ _ e=>by omega) oZ (fun q hq=>((Qj hT).mem q hq).1) ((Qj hT).fN _ oZ)
    rw[e2]
    have eM:=(Qj (S:=S) hT).nm oZ
    generalize Qc (Qm S T) 70 (b - k)=x at *
    rw[Xpu]
    refine Qzx (fun j hj=>?_) eM
    show _=if k + j < k then k + j else cC (fun b=>k + b) [67] n (k + j - k)
    rw[if_neg af,Nat.add_sub_cancel_left]
 cases d<;>exact key
section
variable {P:Program} {c:Cx} {aI ax ex:List (Nat × Bk)} {m n:Nat} {v:Bool} {d:Option Nat} {kk:PK} {f:FuncId} {xs:List TV} {args:List AV} {r:AV} {t:List (Nat × AV)} {r0:List bF} {K:St→Prop} {σ:Nat→Nat}
theorem W4 {p pp:List Nat} {s3:St} (aY:∀ q ∈ c.gh,q.1 ∈ pp) (hq:GD P c.gl f args aI m p r ax) (ok:oB c.gl xs v f args σ p m t ex aI n) (hk:kk=(bif v then .cu else .call f)) (H1:HL ax m) (hr:Qe m r) (il:To pp (Zq t ex ax σ p m n d r) s3) (hx:XP P c r0 K s3):Yl P c (.pd d kk xs none) r0 K ⟨t,ex++Xc σ aI,n⟩:=by
 refine .inr fun ops io he g a w hR K' Q' hK=>?_
 have hA:=De (d:=d) hq ok hk H1 hr ops io he
 refine hA.step _ (fun _ _=>rfl) (fun _ _=>rfl) g a w hR K' Q' fun g2 a' w' bV=>?_
 rw[B9 hA.bf hA.da]at bV
 obtain ⟨g3,j9⟩:=il c g2 a' w' aY bV
 exact hK g3 s3 a' w' hx j9
theorem W5 (H1:HL ax m) (hr:Qe m r):Zq t ex ax σ (List.range m) m n d r=St.bQ ⟨t,ex++Xc σ ax,n + m⟩ d (aD σ r):=by
 have e:∀ b,b < m→cC σ (List.range m) n b=σ b:=fun b hb=>Wm (List.mem_range.2 hb)
 unfold Zq
 have e2:aD (cC σ (List.range m) n) r=aD σ r:=by
  have:=Wv (x:=.cells [r]) e ⟨hr,trivial⟩
  simpa [Xg,ay] using this
 rw[NC H1 e,e2]
end
end Go.Proofs.YtogckmommodmhaaGreatDoor
namespace Go.Proofs.YtogckmommodmhaaGreatDoor
open Go.RowKit
set_option linter.all false
set_option linter.unusedSimpArgs false
set_option maxRecDepth 100000
theorem To.eC {p:List Nat} {t t':List (Nat × AV)} {ex0 ex:List (Nat × Bk)} {S:NS} {T:WT} {N k:Nat} (H:HL (ex++Qm S T) k) (hT:T.wf) (hp:∀ b ∈ p,b < k) (h0:∀ q ∈ ex0,70≤q.1) (h1:∀ q ∈ ex,70≤q.1) (hl:∀ b,70≤b→b < k→Qc (ex0++Qm S T) N b=Qc (ex++Qm S T) k b) (ht:Qu id k t t') :
  To p ⟨t,ex0++Qm S T,N⟩ ⟨t',ex++Qm S T,k⟩ :=
 To.mV id H (fun b hb=>⟨rfl,hp b hb⟩) (fun b b' _ _ e=>e) (fun b hb=>by
  rw[Ws]
  show Qc (ex0++Qm S T) N b=_
  by_cases h:b < 70
  ·rw[Xm fun q hq e=>by have:=h0 q hq;omega,Xm fun q hq e=>by have:=h1 q hq;omega,(Qj hT).lo h N,(Qj hT).lo h k]
  ·exact hl b af hb) ht
end Go.Proofs.YtogckmommodmhaaGreatDoor
