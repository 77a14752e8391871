import Derived.Test.YtogckmommodmhaaGreatDoorZv14
import Derived.Test.YtogckmommodmhaaGreatDoorZv9
import Derived.Test.YtogckmommodmhaaGreatDoorZv12
namespace Go.Proofs.YtogckmommodmhaaGreatDoor
open Go.RowKit
set_option linter.all false
set_option linter.unusedSimpArgs false
set_option maxRecDepth 100000
theorem Vz (f:List UInt8) (side addr port:Int):∃ e,qU f side addr port=.aU [.str (Zf f side addr port),.int .i64 e]:=by
 unfold qU Zf
 split
 ·exact ⟨_,rfl⟩
 ·split
  ·exact ⟨_,rfl⟩
  ·exact ⟨_,rfl⟩
theorem To.kp {p:List Nat} {t t':List (Nat × AV)} {ex ex':List (Nat × Bk)} {S:NS} {T:WT} {N n k:Nat} (hT:T.wf) (H':HL (ex'++Qm S T) k) (hk:70≤k) (hkN:k≤N) (ki:∀ q ∈ ex',70≤q.1) (hex:∀ q ∈ ex,70≤q.1∧q.1 < N) (hp:∀ b ∈ p,b=67)
  (hl:∀ b,70≤b→b < k→Qc (ex++Xc (cD id [67] N) (Qm S T)) n b=Xg (lw (cD id [67] N) 70) (Qc (ex'++Qm S T) k b)) (ht:Qy (lw (cD id [67] N) 70) k t t'):To p ⟨t,ex++Xc (cD id [67] N) (Qm S T),n⟩ ⟨t',ex'++Qm S T,k⟩:=by
 have hs:∀ b,b < 70→cD id [67] N b=67∧b=67∨cD id [67] N b=N + b∧b≠67:=fun b hb=>by
  by_cases e:b=67
  ·subst e;exact .inl ⟨Wm av,rfl⟩
  ·exact .inr ⟨Wr (by simpa using e),e⟩
 refine To.mid (Qj hT) H' hk ki (fun b b' hb bL e=>?_) (fun q hq b hb e=>?_) (fun b hb b' h1 h2 e=>?_) (fun b hb=>?_) hl ht
 ·rcases hs b hb with ⟨h1,h2⟩|⟨h1,h2⟩<;>rcases hs b' bL with ⟨h3,h4⟩|⟨h3,h4⟩<;>omega
 ·have:=hex q hq
  rcases hs b hb with ⟨h1,h2⟩|⟨h1,h2⟩<;>omega
 ·rcases hs b hb with ⟨h3,h4⟩|⟨h3,h4⟩<;>omega
 ·obtain rfl:=hp b hb
  exact ⟨rfl,by omega⟩
theorem To.yE {p:List Nat} {t t':List (Nat × AV)} {h ex ex':List (Nat × Bk)} {m n k:Nat} (H:HL h m) (H':HL (ex'++h) k) (SY:m≤k) (ki:∀ q ∈ ex',m≤q.1) (hex:∀ q ∈ ex,m≤q.1) (hp:∀ b ∈ p,b < k) (hl:∀ b,m≤b→b < k→Qc (ex++h) n b=Qc (ex'++h) k b) (ht:Qy id k t t'):To p ⟨t,ex++h,n⟩ ⟨t',ex'++h,k⟩:=by
 refine To.lY id H' (fun b hb=>⟨rfl,hp b hb⟩) (fun b b' _ _ e=>e) (fun b hb=>?_) ht
 rw[Wg]
 show Qc (ex++h) n b=_
 by_cases h1:b < m
 ·rw[Xn fun q hq e=>by have:=hex q hq;omega,Xn fun q hq e=>by have:=ki q hq;omega,H.lo h1 n,H.lo h1 k]
 ·exact hl b af hb
def bK (S:NS) (m:Mp) (r:Int) (x:Int):Bool:=S.fl.any fun q=>q.1 == x && (decide (q.2.map=m) && q.2.rem == r)
theorem NC {S:NS} (hd:S.fl.Pairwise fun p q=>p.1≠q.1) {q:Int × Fl} (hq:q ∈ S.fl) (m:Mp) (r:Int):bK S m r q.1=(decide (q.2.map=m) && q.2.rem == r):=by
 unfold bK
 rw[Bool.eq_iff_iff,List.any_eq_true]
 constructor
 ·rintro ⟨x,hx,h⟩
  rw[Bool.and_eq_true,beq_iff_eq]at h
  rw[← DW hd hx hq h.1];exact h.2
 ·intro h
  exact ⟨q,hq,by rw[h];simp⟩
theorem Ye4 {S:NS} (hd:S.fl.Pairwise fun p q=>p.1≠q.1) (m:Mp) (r:Int):S.keys.any (bK S m r)=S.fl.any fun q=>decide (q.2.map=m) && q.2.rem == r:=by
 unfold NS.keys
 rw[List.any_map,Bool.eq_iff_iff,List.any_eq_true,List.any_eq_true]
 constructor<;>rintro ⟨q,hq,h⟩
 ·exact ⟨q,hq,by rw[← NC hd hq];exact h⟩
 ·exact ⟨q,hq,by show bK S m r q.1=true;rw[NC hd hq];exact h⟩
theorem uW (N:Nat):lw (cD id [67] N) 70 67=67:=rfl
theorem D2 {S:NS} {T:WT} (hT:T.wf):HL ((70,Bk.cells [.ptr 67 0])::Qm S T) 71:=(Qj hT).more (by simp[bJ,ai,Qe])
theorem Hs (S:NS) (f:List UInt8):S.aR f =
  if bY f≠0 then (bS (bY f),S) else
  if (aB f).dst - 3405803777 < 0∨3≤(aB f).dst - 3405803777 then (bS 7,S) else
  if (aB f).ae=1∧(aB f).flags≠0 then (bS 4,S) else
  if (aB f).aw=1 then (bS 12,S) else
  match S.tb.maps.find? (Wc (aB f).ae ((aB f).dst - 3405803777) (aB f).aj) with
  | none=>(bS 7,S)
  | some m =>
   if S.findF m (aB f).aA (aB f).ah≠0 then (⟨0,Zf f 1 (167772161 + m.s) m.aR,true,[]⟩,S.goes (S.findF m (aB f).aA (aB f).ah) (aB f) true) else
   if S.loose=false∧(S.fl.any fun q=>decide (q.2.map=m) && q.2.rem == (aB f).aA)=false then (bS 11,S) else
   if (aB f).ae≠17∨48≤S.fl.length then (bS 11,S) else
   (⟨0,Zf f 1 (167772161 + m.s) m.aR,true,[]⟩,S.begin ⟨m,(aB f).aA,(aB f).ah,2,0,0⟩):=rfl
theorem D4 {S:NS} {m:Mp} {r rp:Int} (h:S.findF m r rp≠0):∃ q ∈ S.fl,S.findF m r rp=q.1∧q.2.map=m∧q.2.rem=r∧q.2.rport=rp:=by
 unfold NS.findF at h ⊢
 split
 ·rename_i q hq
  have h1:=List.find?_some hq
  simp only[Bool.and_eq_true,decide_eq_true_eq,beq_iff_eq]at h1
  exact ⟨q,List.mem_of_find?_eq_some hq,rfl,h1.1.1,h1.1.2,h1.2⟩
 ·rename_i hq
  rw[hq]at h
  exact absurd rfl h
theorem VA (f:List UInt8):∃ (p:Pk) (e:Int),Uu f=.aU [.agg p.enc,.int .i64 e]∧(e=0→bY f=0∧aB f=p∧(p.ae=1∨p.ae=6∨p.ae=17)∧Kn p)∧(e≠0→bY f=e):=by
 by_cases he:bY f=0
 ·exact ⟨aB f,0,by unfold Uu;rw[if_pos he],fun _=>⟨he,rfl,Vw he⟩,fun h=>(h rfl).elim⟩
 ·exact ⟨eF,bY f,by unfold Uu;rw[if_neg he],fun h=>(he h).elim,fun _=>rfl⟩
set_option maxHeartbeats 16000000 in
theorem Yf2 (gl:Nat→AV) (S:NS) (T T1:WT) (hS:NI S) (hT:T.wf) (bu:T1.wf) (f:List UInt8) (hf:f.length≤140737488351232) (x:Rp × NS) (hx:S.aR f=x) (ha:x.1.code≠0→T1=T)
  (hb:x.1.code=0→∀ m,S.tb.maps.find? (Wc (aB f).ae ((aB f).dst - 3405803777) (aB f).aj)=some m →
   (∀ q ∈ S.fl,S.findF m (aB f).aA (aB f).ah=q.1→GD Tryz.prog gl 93 [.ptr 67 0,.int .i64 q.1,.agg (aB f).enc,.bool true] (Qm S T) 70 [67] (.aU []) (Qm (S.goes q.1 (aB f) true) T1)) ∧
   (S.findF m (aB f).aA (aB f).ah=0→GD Tryz.prog gl 91 [.ptr 67 0,.agg (Fl.enc ⟨m,(aB f).aA,(aB f).ah,2,0,0⟩)] (Qm S T) 70 [67] (.aU []) (Qm (S.begin ⟨m,(aB f).aA,(aB f).ah,2,0,0⟩) T1))) :
  GD Tryz.prog gl 59 [.ptr 67 0,.str f] (Qm S T) 70 [67] (.agg x.1.enc) (Qm x.2 T1):=by
 refine Ydt.gq (of_decide_eq_true rfl) (Zx hT) av fun c a7 hg=>?_
 subst hg
 conv in aQ _ _=>cbv
 have aM:=fun n b hb=>Yp (S:=S) hT n b hb
 have bH:=Kq S T
 have aX:=NS.aS hS.wf
 have eQ:=NS.eZ hS.wf
 have jE:=NS.jE hS.wf
 have uR:=NS.uR hS.wf
 have ND:=hS.len
 have hP:=xC c.gl f hf
 obtain ⟨Z1,qc,sy⟩:∃ Z:Int,(3405803776:Int)=Z∧0≤Z∧Z≤4294967296:=⟨_,rfl,by decide,by decide⟩
 obtain ⟨Z2,tj,NF⟩:∃ Z:Int,(167772161:Int)=Z∧0≤Z∧Z≤4294967296:=⟨_,rfl,by decide,by decide⟩
 rw[qc,tj]
 obtain ⟨p,e,lU,yF,qM⟩:=VA f
 rw[lU]at hP
 rw[Hs]at hx
 obtain ⟨p1,p2,p3,p4,p5,p6,p7,p8,p9,fS,fT,pb⟩:=p
 unfold Pk.enc at hP
 dsimp only at hP
 refine Qh @aM ?_
 ((first|apply Xt|apply Xl|apply Xd|apply Xb)<;>(first|exact hP|(refine XG ?_;first|exact rfl|exact True.intro|((try (repeat' with_reducible refine And.intro ?_ ?_));(try any_goals (first|refine zm ?_|exact CL|fail))))))
 exact Qu @aM
 (refine Qa (fun h1=>?_) (fun h1=>?_)<;>try exact h1.elim)
 ·have he:=qM h1
  subst he
  rw[if_pos h1]at hx
  subst hx
  obtain rfl:=ha (by first|exact h1|simp[bS])
  unfold bS Rp.enc
  refine Qh @aM ?_
  exact ⟨(),To.drop (ex:=[(71,_),(72,_),(72,_),(71,_),(70,_)]) (Qj hT) av av (by simp[Qy,Qe,ai,look,aE,az])⟩
 obtain ⟨he,hp,CW,yG⟩:=yF h1
 rw[if_neg (by rw[he];simp)]at hx
 rw[hp]at hx hb
 unfold Kn at yG
 dsimp only at hx hb CW yG
 refine Qg ?_
 (refine Qa (fun h2=>?_) (fun h2=>?_)<;>try exact h2.elim)
 ·rw[if_pos af]at hx
  subst hx
  obtain rfl:=ha (by first|exact h1|simp[bS])
  unfold bS Rp.enc
  refine Qh @aM ?_
  exact ⟨(),To.drop (ex:=[(71,_),(72,_),(72,_),(71,_),(70,_)]) (Qj hT) av av (by simp[Qy,Qe,ai,look,aE,az])⟩
 rw[if_neg af]at hx
 refine Qg ?_
 (refine Qa (fun h3=>?_) (fun h3=>?_)<;>try exact h3.elim)
 ·rw[if_pos af]at hx
  subst hx
  obtain rfl:=ha (by first|exact h1|simp[bS])
  unfold bS Rp.enc
  refine Qh @aM ?_
  exact ⟨(),To.drop (ex:=[(71,_),(72,_),(72,_),(71,_),(70,_)]) (Qj hT) av av (by simp[Qy,Qe,ai,look,aE,az])⟩
 rw[if_neg af]at hx
 refine Qg ?_
 (refine Qa (fun h4=>?_) (fun h4=>?_)<;>try exact h4.elim)
 ·rw[if_pos af]at hx
  subst hx
  obtain rfl:=ha (by first|exact h1|simp[bS])
  unfold bS Rp.enc
  refine Qh @aM ?_
  exact ⟨(),To.drop (ex:=[(71,_),(72,_),(72,_),(71,_),(70,_)]) (Qj hT) av av (by simp[Qy,Qe,ai,look,aE,az])⟩
 rw[if_neg af]at hx
 have pP:=SQ c.gl S.tb hS.wf (by have:=xP (Ur.2 hS.gt);omega) p1 (p4 - Z1 - 1) p5
 rw[show p4 - 3405803777=p4 - Z1 - 1 by omega]at hx hb
 refine Qh (An @bH (An @aX @eQ)) ?_
 cases hm:S.tb.maps.find? (Wc p1 (p4 - Z1 - 1) p5) with
 | none =>
  rw[hm]at pP hx
  unfold mL at pP
  dsimp only at pP hx
  rw[show ff.enc=[.int .i64 0,.int .i64 0,.int .i64 0,.int .i64 0,.int .i64 0] from rfl]at pP
  refine Xf pP @aM ?_
  (refine Qa (fun h5=>?_) (fun h5=>?_)<;>try exact h5.elim)
  subst hx
  obtain rfl:=ha (by first|exact h1|simp[bS])
  unfold bS Rp.enc
  refine Qh @aM ?_
  exact ⟨(),To.drop (ex:=[(71,_),(73,_),(73,_),(72,_),(72,_),(71,_),(70,_)]) (Qj hT) av av (by simp[Qy,Qe,ai,look,aE,az])⟩
 | some m =>
  rw[hm]at pP hx
  unfold mL at pP
  dsimp only at pP hx
  have hb:=fun h=>hb h m hm
  have kc:=Vd c.gl S T hS.toNJ hT m p2 p3
  obtain ⟨tE,D5⟩:=Vz f 1 (Z2 + m.s) m.aR
  have wv:=Sn c.gl f 1 (Z2 + m.s) m.aR hf
  rw[D5]at wv
  obtain ⟨_,⟨NG,NH⟩,_⟩:=Wd (hS.gt.maps m (List.mem_of_find?_eq_some hm)).1.1
  clear D5
  rw[tj]at hx
  generalize Zf f 1 (Z2 + m.s) m.aR=tf at *
  have VB:=@D4 S m p2 p3
  obtain ⟨mp,ms,mi,ma,mt⟩:=m
  generalize hkF:S.findF ⟨mp,ms,mi,ma,mt⟩ p2 p3=k at *
  unfold Mp.enc at pP kc
  dsimp only at pP kc hx hb wv NG NH
  have Ht:∀ {S:NS} {T:WT},T.wf→HL ([(73,.cells [.int .i64 mp,.int .i64 ms,.int .i64 mi,.int .i64 ma,.int .i64 mt]),(72,.cells [.int .i64 p1,.int .i64 p2,.int .i64 p3,.int .i64 p4,.int .i64 p5,.int .i64 p6,.int .i64 p7,.int .i64 p8,.int .i64 p9,.int .i64 fS,.int .i64 fT,.str pb]),(71,.cells [.int .i64 0,.str [],.bool false,.str []]),(70,.cells [.ptr 67 0])]++Qm S T) 74:=fun hT=>((D2 hT).more (by simp[bJ,ai,Qe])).more (by simp[bJ,ai,Qe]) |>.more (by simp[bJ,ai,Qe])
  refine Xf pP @aM ?_
  (refine Qa (fun h5=>?_) (fun h5=>?_)<;>try exact h5.elim)
  refine Qh @aM ?_
  refine nX (v:=false) (ex:=[(73,_),(73,_),(72,_),(72,_),(71,_),(70,_)]) kc (Qj hT) (Qj hT) (by simp[Qe]) aP av rfl ?_ ?_
  ·exact Qu (An @Ya @aM)
  refine Qg ?_
  (refine Qa (fun h6=>?_) (fun h6=>?_)<;>try exact h6.elim)
  ·rw[if_pos h6]at hx
   subst hx
   obtain ⟨q,hq,e,_⟩:=VB h6
   have eV:=(hb rfl).1 q hq e
   subst e
   generalize NS.goes S _ _ true=S1 at *
   unfold Pk.enc at eV
   dsimp only at eV
   refine Qg ?_
   refine pZ (v:=false) (pp:=[67]) (ex:=[(73,_),(73,_),(72,_),(72,_),(71,_),(70,_)]) (s3:=⟨[(1,.str f),(4,.ptr 71 0),(8,.ptr 73 0)],[(73,.cells [.int .i64 mp,.int .i64 ms,.int .i64 mi,.int .i64 ma,.int .i64 mt]),(72,.cells [.int .i64 p1,.int .i64 p2,.int .i64 p3,.int .i64 p4,.int .i64 p5,.int .i64 p6,.int .i64 p7,.int .i64 p8,.int .i64 p9,.int .i64 fS,.int .i64 fT,.str pb]),(71,.cells [.int .i64 0,.str [],.bool false,.str []]),(70,.cells [.ptr 67 0])]++Qm S1 T1,74⟩) a7 eV (Qj hT) (Qj bu) (by simp[Qe,ai]) aP av av rfl ?_ ?_ ?_
   ·exact Qu @Ya
   ·unfold Jb
    refine To.kp bu (Ht bu) aP aP av av av (fun b h1 h2=>?_) ?_
    ·rcases (by omega:b=70∨b=71∨b=72∨b=73) with rfl|rfl|rfl|rfl<;>rfl
    ·simp[Qy,Qe,ai,look,aE,az,uW,lw]
   refine Qg ?_
   refine Jj wv ?_
   refine Qg ?_
   unfold Rp.enc
   exact ⟨(),To.drop (ex:=[(71,_),(73,_),(72,_),(71,_),(70,_)]) (Qj bu) av av (by simp[Qy,Qe,ai,look,aE,az])⟩
  rw[if_neg af]at hx
  cases fw:S.loose with
  | false =>
   rw[fw]at uR hx
   refine Qh (An @bH (An @aX (An @uR @jE))) ?_
   ((refine vA ?_ ?_ ?_);(focus (have au:=@bH;have aH:=@aX;have aV:=@uR;refine XG ?_;clear au aH aV;try first|exact rfl|exact True.intro));(focus (have au:=@bH;have aH:=@aX;have aV:=@uR;refine XG ?_;clear au aH aV;try trivial)))
   have H4:=Ht (S:=S) hT
   refine pJ (p:=[67]) (s':=⟨[(1,.str f),(2,.ptr 70 0),(4,.ptr 71 0),(5,.ptr 72 0),(8,.ptr 73 0),(90,.bool true),(94,.dw true (.sl 1 69 0 S.fl.length S.fl.length)),(95,.dw true (.cl 97 [.ptr 70 0,.ptr 73 0,.ptr 72 0]))],[(73,.cells [.int .i64 mp,.int .i64 ms,.int .i64 mi,.int .i64 ma,.int .i64 mt]),(72,.cells [.int .i64 p1,.int .i64 p2,.int .i64 p3,.int .i64 p4,.int .i64 p5,.int .i64 p6,.int .i64 p7,.int .i64 p8,.int .i64 p9,.int .i64 fS,.int .i64 fT,.str pb]),(71,.cells [.int .i64 0,.str [],.bool false,.str []]),(70,.cells [.ptr 67 0])]++Qm S T,74⟩) a7 ?_ ?_
   ·refine To.yE (ex:=[(73,_),(73,_),(72,_),(72,_),(71,_),(70,_)]) (Qj hT) H4 aP av av av (fun b h1 h2=>?_) ?_
    ·rcases (by omega:b=70∨b=71∨b=72∨b=73) with rfl|rfl|rfl|rfl<;>rfl
    ·simp[Qy,Qe,ai,look,aE,az]
   have rT:=Vt c.gl (l:=S.keys) (kb:=69) (f:=97) (caps:=[.ptr 70 0,.ptr 73 0,.ptr 72 0]) (b:=bK S ⟨mp,ms,mi,ma,mt⟩ p2) H4 (by simp[NS.keys];omega) aP (fun n=>rfl) (by simp[ai,Qe]) (fun x hx=>by
    obtain ⟨q,hq,rfl⟩:=List.mem_map.1 hx
    rw[NC hS.dP hq]
    exact Xzr c.gl (p:=⟨p1,p2,p3,p4,p5,p6,p7,p8,p9,fS,fT,pb⟩) hS.toNJ H4 (fun n=>rfl) (fun n=>rfl) (fun n=>rfl) (fun n=>rfl) (fun n=>rfl) hq)
   rw[Ye4 hS.dP,show S.keys.length=S.fl.length by simp[NS.keys]]at rT
   refine nX (v:=false) (ex:=[]) rT H4 H4 (by simp[Qe]) aP av rfl ?_ ?_
   ·exact Qu @Ya
   generalize (S.fl.any fun q=>decide (q.2.map=⟨mp,ms,mi,ma,mt⟩) && q.2.rem == p2)=any at *
   refine Qg ?_
   (refine Qa (fun h7=>?_) (fun h7=>?_)<;>try exact h7.elim)
   ·subst h7
    rw[if_pos ⟨rfl,rfl⟩]at hx
    subst hx
    obtain rfl:=ha (by first|exact h1|simp[bS])
    unfold bS Rp.enc
    refine Qh @aM ?_
    exact ⟨(),To.drop (ex:=[(71,_),(73,_),(72,_),(71,_),(70,_)]) (Qj hT) av av (by simp[Qy,Qe,ai,look,aE,az])⟩
   rw[if_neg (by simpa using h7)]at hx
   refine Qh (An @bH (An @aX @jE)) ?_
   (refine Qa (fun h8=>?_) (fun h8=>?_)<;>try exact h8.elim)
   ·rw[if_pos af]at hx
    subst hx
    obtain rfl:=ha (by first|exact h1|simp[bS])
    unfold bS Rp.enc
    refine Qh @aM ?_
    exact ⟨(),To.drop (ex:=[(71,_),(73,_),(72,_),(71,_),(70,_)]) (Qj hT) av av (by simp[Qy,Qe,ai,look,aE,az])⟩
   ·rw[if_neg af]at hx
    subst hx
    have eV:=(hb rfl).2 af
    generalize NS.begin S _=S1 at *
    unfold Fl.enc Wf at eV
    dsimp only at eV
    refine Qh (An @bH (An @aX @jE)) ?_
    refine pZ (v:=false) (pp:=[67]) (ex:=[(73,_),(72,_),(71,_),(70,_)]) (s3:=⟨[(1,.str f),(4,.ptr 71 0),(8,.ptr 73 0)],[(73,.cells [.int .i64 mp,.int .i64 ms,.int .i64 mi,.int .i64 ma,.int .i64 mt]),(72,.cells [.int .i64 p1,.int .i64 p2,.int .i64 p3,.int .i64 p4,.int .i64 p5,.int .i64 p6,.int .i64 p7,.int .i64 p8,.int .i64 p9,.int .i64 fS,.int .i64 fT,.str pb]),(71,.cells [.int .i64 0,.str [],.bool false,.str []]),(70,.cells [.ptr 67 0])]++Qm S1 T1,74⟩) a7 eV (Qj hT) (Qj bu) (by simp[Qe,ai]) aP av av rfl ?_ ?_ ?_
    ·exact Qu @Ya
    ·unfold Jb
     refine To.kp bu (Ht bu) aP aP av av av (fun b h1 h2=>?_) ?_
     ·rcases (by omega:b=70∨b=71∨b=72∨b=73) with rfl|rfl|rfl|rfl<;>rfl
     ·simp[Qy,Qe,ai,look,aE,az,uW,lw]
    refine Qg ?_
    refine Jj wv ?_
    refine Qg ?_
    unfold Rp.enc
    exact ⟨(),To.drop (ex:=[(71,_),(73,_),(72,_),(71,_),(70,_)]) (Qj bu) av av (by simp[Qy,Qe,ai,look,aE,az])⟩
  | true =>
   rw[fw]at uR hx
   rw[if_neg av]at hx
   refine Qh (An @bH (An @aX @uR)) ?_
   ((first|apply Ym|apply Yb)<;>(have au:=@bH;have aH:=@aX;have aV:=@uR;refine XG ?_;clear au aH aV;first|exact rfl|exact True.intro|((try (repeat' with_reducible refine And.intro ?_ ?_));(try any_goals (first|refine zm ?_|exact CL|fail)))))
   refine Qg ?_
   (refine Qa (fun h7=>?_) (fun h7=>?_)<;>try exact h7.elim)
   refine Qh (An @bH (An @aX @jE)) ?_
   (refine Qa (fun h8=>?_) (fun h8=>?_)<;>try exact h8.elim)
   ·rw[if_pos af]at hx
    subst hx
    obtain rfl:=ha (by first|exact h1|simp[bS])
    unfold bS Rp.enc
    refine Qh @aM ?_
    exact ⟨(),To.drop (ex:=[(71,_),(73,_),(73,_),(72,_),(72,_),(71,_),(70,_)]) (Qj hT) av av (by simp[Qy,Qe,ai,look,aE,az])⟩
   ·rw[if_neg af]at hx
    subst hx
    have eV:=(hb rfl).2 af
    generalize NS.begin S _=S1 at *
    unfold Fl.enc Wf at eV
    dsimp only at eV
    refine Qh (An @bH (An @aX @jE)) ?_
    refine pZ (v:=false) (pp:=[67]) (ex:=[(73,_),(73,_),(72,_),(72,_),(71,_),(70,_)]) (s3:=⟨[(1,.str f),(4,.ptr 71 0),(8,.ptr 73 0)],[(73,.cells [.int .i64 mp,.int .i64 ms,.int .i64 mi,.int .i64 ma,.int .i64 mt]),(72,.cells [.int .i64 p1,.int .i64 p2,.int .i64 p3,.int .i64 p4,.int .i64 p5,.int .i64 p6,.int .i64 p7,.int .i64 p8,.int .i64 p9,.int .i64 fS,.int .i64 fT,.str pb]),(71,.cells [.int .i64 0,.str [],.bool false,.str []]),(70,.cells [.ptr 67 0])]++Qm S1 T1,74⟩) a7 eV (Qj hT) (Qj bu) (by simp[Qe,ai]) aP av av rfl ?_ ?_ ?_
    ·exact Qu @Ya
    ·unfold Jb
     refine To.kp bu (Ht bu) aP aP av av av (fun b h1 h2=>?_) ?_
     ·rcases (by omega:b=70∨b=71∨b=72∨b=73) with rfl|rfl|rfl|rfl<;>rfl
     ·simp[Qy,Qe,ai,look,aE,az,uW,lw]
    refine Qg ?_
    refine Jj wv ?_
    refine Qg ?_
    unfold Rp.enc
    exact ⟨(),To.drop (ex:=[(71,_),(73,_),(72,_),(71,_),(70,_)]) (Qj bu) av av (by simp[Qy,Qe,ai,look,aE,az])⟩
def VC (gl:Nat→AV) (S:NS) (T:WT) (f:List UInt8) (x:Rp × NS):Prop:=∃ T' D',WI T' x.2.now D'∧D'.Perm x.2.bb∧(x.1.code≠0→T'=T)∧(x.1.code=0→∀ m,S.tb.maps.find? (Wc (aB f).ae ((aB f).dst - 3405803777) (aB f).aj)=some m →
   (∀ q ∈ S.fl,S.findF m (aB f).aA (aB f).ah=q.1→GD Tryz.prog gl 93 [.ptr 67 0,.int .i64 q.1,.agg (aB f).enc,.bool true] (Qm S T) 70 [67] (.aU []) (Qm (S.goes q.1 (aB f) true) T')) ∧
   (S.findF m (aB f).aA (aB f).ah=0→GD Tryz.prog gl 91 [.ptr 67 0,.agg (Fl.enc ⟨m,(aB f).aA,(aB f).ah,2,0,0⟩)] (Qm S T) 70 [67] (.aU []) (Qm (S.begin ⟨m,(aB f).aA,(aB f).ah,2,0,0⟩) T')))
theorem VD (gl:Nat→AV) (S:NS) (T:WT) (D:List Tm) (hS:NI S) (wo:S.b7≤1000000) (hW:WI T S.now D) (hD:D.Perm S.bb) (f:List UInt8) (hf:f.length≤140737488351232):∃ T' D',WI T' (S.aR f).2.now D'∧D'.Perm (S.aR f).2.bb ∧
  GD Tryz.prog gl 59 [.ptr 67 0,.str f] (Qm S T) 70 [67] (.agg (S.aR f).1.enc) (Qm (S.aR f).2 T'):=by
 have key:∀ x,S.aR f=x→VC gl S T f x:=by
  intro x hx
  have stay:∀ r:Rp,r.code≠0→x=(r,S)→VC gl S T f x:=fun r hr e=>by
   subst e
   exact ⟨T,D,hW,hD,fun _=>rfl,fun h=>(hr h).elim⟩
  rw[Hs]at hx
  split at hx
  ·rename_i h;exact stay _ h hx.symm
  split at hx
  ·exact stay (bS 7) aP hx.symm
  split at hx
  ·exact stay (bS 4) aP hx.symm
  split at hx
  ·exact stay (bS 12) aP hx.symm
  split at hx
  ·exact stay (bS 7) aP hx.symm
  rename_i m hm
  split at hx
  ·rename_i hk
   obtain ⟨q,hq,e,_⟩:=D4 hk
   obtain ⟨T1,D1,dp,jF,hg⟩:=Vq gl S T D hS hW hD q hq (aB f) true
   subst hx
   rw[e]
   refine ⟨T1,D1,dp,jF,fun h=>(h rfl).elim,fun _ m' sY=>?_⟩
   obtain rfl:=Option.some.inj (hm.symm.trans sY)
   exact ⟨fun q' cF e'=>by rw[show q'.1=q.1 from e'.symm.trans e];exact hg,fun e'=>(hk e').elim⟩
  rename_i hk
  split at hx
  ·exact stay (bS 11) aP hx.symm
  split at hx
  ·exact stay (bS 11) aP hx.symm
  rename_i h8
  obtain ⟨T1,D1,dp,jF,hg⟩:=Vm gl S T D hS.toNJ.nb wo hW hD af m (aB f).aA (aB f).ah 2
  subst hx
  refine ⟨T1,D1,dp,jF,fun h=>(h rfl).elim,fun _ m' sY=>?_⟩
  obtain rfl:=Option.some.inj (hm.symm.trans sY)
  exact ⟨fun q' cF e'=>absurd (by rw[e'];have:=(hS.ids q' cF).1;omega) hk,fun _=>hg⟩
 obtain ⟨T',D',h1,h2,h3,h4⟩:=key _ rfl
 exact ⟨T',D',h1,h2,Yf2 gl S T T' hS hW.wf h1.wf f hf _ rfl h3 h4⟩
theorem Xto (gl:Nat→AV) (p:Int) (r:List AV):PS Tryz.prog gl 92 [.agg (.int .i64 p::r)] (.int .i64 (if p=6 then 1 else 2)):=by
 refine Xt6.ps (of_decide_eq_true rfl) (by simp[Qe]) fun c hN hg=>?_
 conv in aQ _ _=>cbv
 refine Qg ?_
 (repeat' (first|((refine Qa (fun hh=>?_) (fun hh=>?_)<;>try exact hh.elim)<;>exact Qw) ))
 all_goals simp_all
theorem Xos (gl:Nat→AV) (p:Pk):PS Tryz.prog gl 87 [.agg p.enc] (.bool (A1 p.ae p.flags)):=by
 refine Xj7.ps (of_decide_eq_true rfl) (by simp[Qe]) fun c hN hg=>?_
 conv in aQ _ _=>cbv
 obtain ⟨p1,p2,p3,p4,p5,p6,p7,p8,p9,fS,fT,pb⟩:=p
 unfold Pk.enc A1
 dsimp only
 refine Qg ?_
 (refine Qa (fun h1=>?_) (fun h1=>?_)<;>try exact h1.elim)
 ·subst h1
  exact Qw
 refine Qg ?_
 (refine Qa (fun h2=>?_) (fun h2=>?_)<;>try exact h2.elim)
 ·subst h2
  exact Qw
 refine Qg ?_
 by_cases h3:p1=17
 ·subst h3;rfl
 ·rw[if_neg h3,if_neg h1]
  simp[h2,h3]
section
variable {P:Program} {c:Cx}
theorem D6 {o:bG} {r0:List bG} {K:St→Prop} {s s2:St} (e:s.fs=s2.fs) (h:Yh P c o r0 K s2):Yh P c o r0 K s:=by
 unfold Yh IJ Fh at h ⊢
 rw[e];exact h
theorem Xnu {anc:List Nat} {o:bG} {r0:List bG} {fs:List bn} {K:St→Prop} {s s2:St} (e:s.fs=s2.fs) (h:Zm P c anc o r0 fs K s2):Zm P c anc o r0 fs K s:=by
 unfold Zm IK at h ⊢
 rw[e];exact h
end
theorem A8 {A B:List (Nat × Bk)} {S S':NS} {T:WT} {n:Nat} {t:List (Nat × AV)} (iJ:S'.fl=S.fl) (hA:∀ q ∈ A,q.1≠67) (hB:∀ q ∈ B,q.1≠67):(⟨t,A++((67,.cells S'.cells)::(B++Qm S T)),n⟩:St).fs=(⟨t,(A++B)++Qm S' T,n⟩:St).fs:=by
 refine pG (fun _=>rfl) fun b=>?_
 show Qc _ n b=Qc _ n b
 by_cases h:b=67
 ·subst h
  rw[Xn hA,Qd,if_pos rfl,List.append_assoc,Xn hA,Xn hB]
  rfl
 ·have e1:Qc ((67,Bk.cells S'.cells)::(B++Qm S T)) n b=Qc (B++Qm S' T) n b:=by
   rw[Qd,if_neg fun e=>h e.symm]
   refine CC ?_
   unfold Qm NS.keys
   rw[iJ]
   show Qc ((67,_)::_) n b=Qc ((67,_)::_) n b
   rw[Qd,if_neg fun e=>h e.symm]
   conv=>rhs;rw[Qd,if_neg fun e=>h e.symm]
  rw[List.append_assoc]
  exact CC e1
section
variable {P:Program} {c:Cx} {h h1 ex:List (Nat × Bk)} {m n:Nat} {v:Bool} {d:Option Nat} {kk:PK} {f:FuncId} {xs:List TV} {args:List AV} {r:AV} {t:List (Nat × AV)} {r0:List bG} {K:St→Prop}
theorem Xyo {pp:List Nat} {s3:St} (a7:∀ q ∈ c.gh,q.1 ∈ pp) (hq:GD P c.gl f args h m (List.range m) r h1) (H:HL h m) (H1:HL h1 m) (hr:Qe m r) (hn:m≤n) (hex:∀ q ∈ ex,m≤q.1∧q.1 < n) (hk:kk=(bif v then .cX else .call f))
  (hc:Qv none (aG c.gl (⟨t,ex++h,n⟩:St).fs xs)∧lR v f ((aG c.gl (⟨t,ex++h,n⟩:St).fs xs).map Qk)=some (f,args)∧ai m args) (gT:To pp (St.bQ ⟨t,ex++h1,n + m⟩ d r) s3) (hx:XP P c r0 K s3):Yh P c (.pd d kk xs none) r0 K ⟨t,ex++h,n⟩ :=
 pZ a7 hq H H1 hr hn (fun b hb=>List.mem_range.1 hb) hex hk hc (by rw[DT H1 hr];exact gT) hx
end
theorem NS.D7 {S:NS} (h:S.tb.wf) {tb:Tb} (hw:tb.wf):Yx S.cells 0 tb.enc=({ S with tb:=tb }:NS).cells:=by
 unfold Yx NS.cells
 rw[List.take_zero,List.nil_append,Nat.zero_add,Tb.aD hw,← Tb.aD h,List.drop_left]
 rfl
theorem Xqq (f:List UInt8) (ae aw:Int) (a w:Nat) (addr port:Int):(Yl f ae aw a w addr port).length=f.length:=by
 have dz:∀ b pr m n,(tl b pr m n).length=b.length:=fun b pr m n=>by unfold tl;split<;>simp[Jw]
 unfold Yl
 dsimp only
 split<;>simp only[Lv,Qr,dz]
theorem Hu (f:List UInt8) (side addr port:Int):(Zf f side addr port).length≤f.length:=by
 unfold Zf
 split
 ·simp
 ·split
  ·simp
  ·rw[Xqq];exact Nat.le_refl _
theorem wx (N:Nat):cD id [67] N 67=67:=rfl
section
variable {P:Program} {c:Cx} {h h1 ex:List (Nat × Bk)} {m n:Nat} {v:Bool} {d:Option Nat} {kk:PK} {f:FuncId} {xs:List TV} {args:List AV} {r:AV} {t:List (Nat × AV)} {r0:List bG} {K:St→Prop}
theorem VE {ι:Type} (J:ι→Prop) (st:ι→St) {A:TC} {Q:EX→St→Prop} {s:St} (h2:∀ i,J i→Q .normal (st i)) (h1:∀ Q':EX→St→Prop,(∀ i,J i→Q' .normal (st i))→(∀ s,Q .ret s→Q' .ret s)→xw P c A Q' s):xw P c A Q s:=h1 Q h2 fun _ h=>h
theorem Ydz {p:List Nat} (hq:GD P c.gl f args h m p r h1) (H:HL h m) (H1:HL h1 m) (hr:Qe m r) (hn:m≤n) (hp:∀ b ∈ p,b < m) (hex:∀ q ∈ ex,m≤q.1∧q.1 < n) (hk:kk=(bif v then .cX else .call f))
  (hc:Qv none (aG c.gl (⟨t,ex++h,n⟩:St).fs xs)∧lR v f ((aG c.gl (⟨t,ex++h,n⟩:St).fs xs).map Qk)=some (f,args)∧ai m args) (hx:XP P c r0 K (Jb t ex h1 id p m n d r)):Yh P c (.pd d kk xs none) r0 K ⟨t,ex++h,n⟩:=by
 have:=Ld (d:=d) (r0:=r0) (K:=K) hq (yw (v:=v) H hn hp hex hc) hk H1 hr hx
 rw[Jz]at this;exact this
end
theorem D8 (S:NS) (f:List UInt8) (m:Mp) (es:List Ev):S.dQ f m es =
  if 0≤(aB f).dst - 3405803777∧(aB f).dst - 3405803777 < 3 then
   (⟨((S.log es).aR (Zf f 0 (3405803777 + m.a) m.port)).1.code,((S.log es).aR (Zf f 0 (3405803777 + m.a) m.port)).1.frame,((S.log es).aR (Zf f 0 (3405803777 + m.a) m.port)).1.inner,jD S.told es⟩,((S.log es).aR (Zf f 0 (3405803777 + m.a) m.port)).2)
  else (⟨0,Zf f 0 (3405803777 + m.a) m.port,false,jD S.told es⟩,S.log es):=rfl
noncomputable def NS.mV (S:NS) (f:List UInt8) (draw:Int):(Rp × NS) × Option (Mp × List Ev × NS) :=
 if bY f≠0 then ((bS (bY f),S),none) else
 if (aB f).aA - 167772161 < 0∨8≤(aB f).aA - 167772161 then ((bS 7,S),none) else
 if (aB f).ae=1∧(aB f).flags≠8 then ((bS 4,S),none) else
 if (aB f).aw=1 then ((bS 12,S),none) else
 if S.cQ (aB f)≠0 then (match S.fwd (aB f) with
  | some m=>((S.goes (S.cQ (aB f)) (aB f) false).dQ f m [],some (m,[],S.goes (S.cQ (aB f)) (aB f) false))
  | none=>((bS 0,S),none))
 else if A1 (aB f).ae (aB f).flags=false then ((bS 11,S),none) else
 if 48≤S.fl.length then (S.refuse f 6,none) else
 if (S.tb.cz (aB f).ae ((aB f).aA - 167772161) (aB f).ah draw).2.2.2≠0 then (S.refuse f (S.tb.cz (aB f).ae ((aB f).aA - 167772161) (aB f).ah draw).2.2.2,none) else
 (S.opened f (S.tb.cz (aB f).ae ((aB f).aA - 167772161) (aB f).ah draw),some ((S.tb.cz (aB f).ae ((aB f).aA - 167772161) (aB f).ah draw).2.1,
  (if (S.tb.cz (aB f).ae ((aB f).aA - 167772161) (aB f).ah draw).2.2.1 then [({ S with tb:=(S.tb.cz (aB f).ae ((aB f).aA - 167772161) (aB f).ah draw).1 }:NS).ev (S.tb.cz (aB f).ae ((aB f).aA - 167772161) (aB f).ah draw).2.1 false] else []),
  ({ S with tb:=(S.tb.cz (aB f).ae ((aB f).aA - 167772161) (aB f).ah draw).1 }:NS).begin ⟨(S.tb.cz (aB f).ae ((aB f).aA - 167772161) (aB f).ah draw).2.1,(aB f).dst,(aB f).aj,pY (aB f).ae,0,0⟩))
theorem Yc3 (S:NS) (f:List UInt8) (d:Int):(S.mV f d).1=S.out f d:=by
 rw[DY]
 unfold NS.mV
 (repeat' split)<;>first|rfl|(simp_all;done)
structure uX (gl:Nat→AV) (S:NS) (T T1 T':WT) (f:List UInt8) (p:Pk) (x:Tb) (m:Mp) (es:List Ev) (S1:NS):Prop where
 nj:NJ S1
 told:S1.told≤100000
 len:es.length≤64
 bR:∀ e ∈ es,Zo e.t e.s e.a e.b=true∧e.t=(es.headD ⟨0,0,0,0,false⟩).t
 a:0≤m.a∧m.a < 3
 goes:S.cQ p≠0→GD Tryz.prog gl 93 [.ptr 67 0,.int .i64 (S.cQ p),.agg p.enc,.bool false] (Qm S T) 70 [67] (.aU []) (Qm S1 T1)
 beg:S.cQ p=0→C5 m∧GD Tryz.prog gl 91 [.ptr 67 0,.agg (Fl.enc ⟨m,p.dst,p.aj,pY p.ae,0,0⟩)] (Qm { S with tb:=x } T) 70 [67] (.aU []) (Qm S1 T1)
 aR:0≤p.dst - 3405803777∧p.dst - 3405803777 < 3→GD Tryz.prog gl 59 [.ptr 67 0,.str (Zf f 0 (3405803777 + m.a) m.port)] (Qm (S1.log es) T1) 70 [67] (.agg ((S1.log es).aR (Zf f 0 (3405803777 + m.a) m.port)).1.enc) (Qm ((S1.log es).aR (Zf f 0 (3405803777 + m.a) m.port)).2 T')
 out:¬ (0≤p.dst - 3405803777∧p.dst - 3405803777 < 3)→T'=T1
structure OW where
 t:List (Nat × AV)
 ex:List (Nat × Bk)
 N:Nat
 n:Nat
 m:Mp
 es:List Ev
 S1:NS
def OW.h (T1:WT) (i:OW):List (Nat × Bk):=i.ex++Xc (cD id [67] i.N) (Qm i.S1 T1)
structure OJ (T1:WT) (f:List UInt8) (pc ac:List AV) (x:Rp × NS) (y:Option (Mp × List Ev × NS)) (i:OW):Prop where
 y:y=some (i.m,i.es,i.S1)
 x:x=i.S1.dQ f i.m i.es
 k0:look i.t 0=.ptr 67 0
 k3:look i.t 3=.ptr 70 0
 k4:look i.t 4=.ptr 71 0
 k5:look i.t 5=.ptr 72 0
 k8:look i.t 8=.ptr 73 0
 Hv:Wk (look i.t 11) (.isl i.es.length (Yr i.es))
 ex:∀ q ∈ i.ex,70≤q.1∧q.1 < i.N
 N:74≤i.N
 Hw:∀ n,Qc (i.h T1) n 70=.cells ac
 NL:∀ n,Qc (i.h T1) n 71=.cells [.int .i64 0,.str [],.bool false,.str []]
 NM:∀ n,Qc (i.h T1) n 72=.cells pc
 Hx:∀ n,Qc (i.h T1) n 73=.cells [.int .i64 i.m.ae,.int .i64 i.m.s,.int .i64 i.m.aR,.int .i64 i.m.a,.int .i64 i.m.port]
set_option maxHeartbeats 32000000 in
theorem Yct (gl:Nat→AV) (h0:gl 0=.xp (Qp Xo) 0) (S:NS) (T T1 T':WT) (D:List Tm) (hS:NI S) (hW:WI T S.now D) (bu:T1.wf) (eW:T'.wf) (ak an ad:Int) (f:List UInt8) (hf:f.length≤140737488351232) (x:Rp × NS) (y:Option (Mp × List Ev × NS)) (hx:S.mV f ad=(x,y)) (hN:y=none→T'=T)
  (hY:∀ m es S1,y=some (m,es,S1)→uX gl S T T1 T' f (aB f) (S.tb.cz (aB f).ae ((aB f).aA - 167772161) (aB f).ah ad).1 m es S1) :
  GD Tryz.prog gl 58 [.ptr 67 0,.agg [.int .i64 ak,.int .i64 an,.int .i64 ad,.str f]] (Qm S T) 70 [67] (.agg x.1.enc) (Qm x.2 T'):=by
 have hT:=hW.wf
 refine Xxq.gq (of_decide_eq_true rfl) (Zx hT) av fun c a7 hg=>?_
 subst hg
 conv in aQ _ _=>cbv
 have aM:=fun n b hb=>Yp (S:=S) hT n b hb
 have bH:=Kq S T
 have aX:=NS.aS hS.wf
 have eQ:=NS.eZ hS.wf
 have jE:=NS.jE hS.wf
 have ND:=hS.len
 have hP:=xC c.gl f hf
 obtain ⟨Z1,qc,sy⟩:∃ Z:Int,(3405803776:Int)=Z∧0≤Z∧Z≤4294967296:=⟨_,rfl,by decide,by decide⟩
 obtain ⟨Z2,tj,NF⟩:∃ Z:Int,(167772160:Int)=Z∧0≤Z∧Z≤4294967296:=⟨_,rfl,by decide,by decide⟩
 obtain ⟨Z3,VF,hz3⟩:∃ Z:Int,(3405803777:Int)=Z∧0≤Z∧Z≤4294967296:=⟨_,rfl,by decide,by decide⟩
 rw[qc,tj,VF]
 obtain ⟨p,e,lU,yF,qM⟩:=VA f
 rw[lU]at hP
 unfold NS.mV at hx
 obtain ⟨p1,p2,p3,p4,p5,p6,p7,p8,p9,fS,fT,pb⟩:=p
 unfold Pk.enc at hP
 dsimp only at hP
 refine Qh @aM ?_
 ((first|apply Xt|apply Xl|apply Xd|apply Xb)<;>(first|exact hP|(refine XG ?_;first|exact rfl|exact True.intro|((try (repeat' with_reducible refine And.intro ?_ ?_));(try any_goals (first|refine zm ?_|exact CL|fail))))))
 exact Qu @aM
 (refine Qa (fun h1=>?_) (fun h1=>?_)<;>try exact h1.elim)
 ·have he:=qM h1
  subst he
  rw[if_pos h1]at hx
  obtain ⟨rfl,rfl⟩:=Prod.mk.inj hx
  obtain rfl:=hN rfl
  unfold bS Rp.enc at *
  refine Qh @aM ?_
  exact ⟨(),To.drop (ex:=[(71,_),(72,_),(72,_),(71,_),(70,_)]) (Qj hT) av av (by simp[Qy,Qe,ai,look,aE,az])⟩
 obtain ⟨he,hp,CW,yG⟩:=yF h1
 rw[if_neg (by rw[he];simp),hp]at hx
 rw[hp]at hY
 unfold Kn at yG
 dsimp only at hx hY CW yG
 refine Qg ?_
 (refine Qa (fun h2=>?_) (fun h2=>?_)<;>try exact h2.elim)
 ·rw[if_pos af]at hx
  obtain ⟨rfl,rfl⟩:=Prod.mk.inj hx
  obtain rfl:=hN rfl
  unfold bS Rp.enc at *
  refine Qh @aM ?_
  exact ⟨(),To.drop (ex:=[(71,_),(72,_),(72,_),(71,_),(70,_)]) (Qj hT) av av (by simp[Qy,Qe,ai,look,aE,az])⟩
 rw[if_neg af]at hx
 refine Qg ?_
 (refine Qa (fun h3=>?_) (fun h3=>?_)<;>try exact h3.elim)
 ·rw[if_pos af]at hx
  obtain ⟨rfl,rfl⟩:=Prod.mk.inj hx
  obtain rfl:=hN rfl
  unfold bS Rp.enc at *
  refine Qh @aM ?_
  exact ⟨(),To.drop (ex:=[(71,_),(72,_),(72,_),(71,_),(70,_)]) (Qj hT) av av (by simp[Qy,Qe,ai,look,aE,az])⟩
 rw[if_neg af]at hx
 refine Qg ?_
 (refine Qa (fun h4=>?_) (fun h4=>?_)<;>try exact h4.elim)
 ·rw[if_pos af]at hx
  obtain ⟨rfl,rfl⟩:=Prod.mk.inj hx
  obtain rfl:=hN rfl
  unfold bS Rp.enc at *
  refine Qh @aM ?_
  exact ⟨(),To.drop (ex:=[(71,_),(72,_),(72,_),(71,_),(70,_)]) (Qj hT) av av (by simp[Qy,Qe,ai,look,aE,az])⟩
 rw[if_neg af]at hx
 have kS:=SP c.gl S.tb hS.wf (by have:=xP (Ur.2 hS.gt);omega) p1 (p2 - Z2 - 1) p3
 rw[show p2 - 167772161=p2 - Z2 - 1 by omega]at hx hY
 refine Qh (An @bH (An @aX @eQ)) ?_
 obtain ⟨m,th,DE,VG,Hy⟩:∃ m th,mL (S.tb.maps.find? (Zi p1 (p2 - Z2 - 1) p3))=.aU [.agg (Mp.enc m),.bool th]∧(th=true→S.fwd ⟨p1,p2,p3,p4,p5,p6,p7,p8,p9,fS,fT,pb⟩=some m∧S.cQ ⟨p1,p2,p3,p4,p5,p6,p7,p8,p9,fS,fT,pb⟩=S.findF m p4 p5)∧(th=false→S.cQ ⟨p1,p2,p3,p4,p5,p6,p7,p8,p9,fS,fT,pb⟩=0):=by
  have e1:S.fwd ⟨p1,p2,p3,p4,p5,p6,p7,p8,p9,fS,fT,pb⟩=S.tb.maps.find? (Zi p1 (p2 - Z2 - 1) p3):=by
   rw[show p2 - Z2 - 1=p2 - 167772161 by omega];rfl
  unfold NS.cQ
  rw[e1]
  cases S.tb.maps.find? (Zi p1 (p2 - Z2 - 1) p3) with
  | none=>exact ⟨ff,false,rfl,by simp,fun _=>rfl⟩
  | some m=>exact ⟨m,true,rfl,fun _=>⟨rfl,rfl⟩,by simp⟩
 rw[DE]at kS
 clear DE
 have kc:=Vd c.gl S T hS.toNJ hT m p4 p5
 have VB:=fun h=>@D4 S m p4 p5 h
 generalize NN:S.cQ ⟨p1,p2,p3,p4,p5,p6,p7,p8,p9,fS,fT,pb⟩=k at *
 obtain ⟨m1,m2,m3,m4,m5⟩:=m
 unfold Mp.enc at kS kc
 dsimp only at kS kc
 refine Xf kS @aM ?_
 refine VE (fun y:List (Nat × AV) × Nat=>look y.1 0=.ptr 67 0∧look y.1 3=.ptr 70 0∧look y.1 4=.ptr 71 0∧look y.1 5=.ptr 72 0∧look y.1 7=.int .i64 (p2 - Z2 - 1)∧look y.1 8=.ptr 73 0∧look y.1 10=.int .i64 k∧74≤y.2)
  (fun y=>⟨y.1,[(73,.cells [.int .i64 m1,.int .i64 m2,.int .i64 m3,.int .i64 m4,.int .i64 m5]),(73,.cells [.int .i64 0,.int .i64 0,.int .i64 0,.int .i64 0,.int .i64 0]),(72,.cells [.int .i64 p1,.int .i64 p2,.int .i64 p3,.int .i64 p4,.int .i64 p5,.int .i64 p6,.int .i64 p7,.int .i64 p8,.int .i64 p9,.int .i64 fS,.int .i64 fT,.str pb]),(72,.cells [.int .i64 0,.int .i64 0,.int .i64 0,.int .i64 0,.int .i64 0,.int .i64 0,.int .i64 0,.int .i64 0,.int .i64 0,.int .i64 0,.int .i64 0,.str []]),(71,.cells [.int .i64 0,.str [],.bool false,.str []]),(70,.cells [.int .i64 ak,.int .i64 an,.int .i64 ad,.str f])]++Qm S T,y.2⟩) (fun y hy=>?_) fun Q' hQ hR=>?_
 rotate_left
 ·(refine Qa (fun h5=>?_) (fun h5=>?_)<;>try exact h5.elim)
  ·obtain ⟨xk,jq⟩:=VG h5
   subst jq
   refine Qh @aM ?_
   refine nX (v:=false) (ex:=[(73,_),(73,_),(72,_),(72,_),(71,_),(70,_)]) kc (Qj hT) (Qj hT) (by simp[Qe]) aP av rfl ?_ ?_
   ·exact Qu (An @Ya @aM)
   refine Qg ?_
   exact hQ (_,_) ⟨rfl,rfl,rfl,rfl,rfl,rfl,rfl,Nat.le_of_ble_eq_true rfl⟩
  ·obtain rfl:=Hy h5
   refine Qg ?_
   exact hQ (_,_) ⟨rfl,rfl,rfl,rfl,rfl,rfl,rfl,Nat.le_of_ble_eq_true rfl⟩
 obtain ⟨t,n⟩:=y
 obtain ⟨k0,k3,k4,k5,k7,k8,qT,hn⟩:=hy
 dsimp only at k0 k3 k4 k5 k7 k8 qT hn ⊢
 refine Qh @qT ?_
 refine VE (OJ T1 f [.int .i64 p1,.int .i64 p2,.int .i64 p3,.int .i64 p4,.int .i64 p5,.int .i64 p6,.int .i64 p7,.int .i64 p8,.int .i64 p9,.int .i64 fS,.int .i64 fT,.str pb] [.int .i64 ak,.int .i64 an,.int .i64 ad,.str f] x y) (fun i=>⟨i.t,i.h T1,i.n⟩) (fun i hi=>?_) fun Q' hQ hR=>?_
 rotate_left
 ·(refine Qa (fun h6=>?_) (fun h6=>?_)<;>try exact h6.elim)
  ·subst h6
   rw[if_neg av]at hx
   have H4:∀ {m:List AV},bJ 74 (.cells m)→∀ {S:NS} {T:WT},T.wf→HL ([(73,.cells m),(72,.cells [.int .i64 p1,.int .i64 p2,.int .i64 p3,.int .i64 p4,.int .i64 p5,.int .i64 p6,.int .i64 p7,.int .i64 p8,.int .i64 p9,.int .i64 fS,.int .i64 fT,.str pb]),(71,.cells [.int .i64 0,.str [],.bool false,.str []]),(70,.cells [.int .i64 ak,.int .i64 an,.int .i64 ad,.str f])]++Qm S T) 74:=fun hm _ _ hT=>(((Qj hT).more (by simp[bJ,ai,Qe])).more (by simp[bJ,ai,Qe])).more (by simp[bJ,ai,Qe]) |>.more hm
   refine Qh (An @aM @k5) ?_
   refine pJ (p:=[67]) (s':=⟨[(0,.ptr 67 0),(3,.ptr 70 0),(4,.ptr 71 0),(5,.ptr 72 0),(7,.int .i64 (p2 - Z2 - 1)),(8,.ptr 73 0),(10,.int .i64 0),(11,.nils),(78,.agg [.int .i64 p1,.int .i64 p2,.int .i64 p3,.int .i64 p4,.int .i64 p5,.int .i64 p6,.int .i64 p7,.int .i64 p8,.int .i64 p9,.int .i64 fS,.int .i64 fT,.str pb])],[(73,.cells [.int .i64 m1,.int .i64 m2,.int .i64 m3,.int .i64 m4,.int .i64 m5]),(72,.cells [.int .i64 p1,.int .i64 p2,.int .i64 p3,.int .i64 p4,.int .i64 p5,.int .i64 p6,.int .i64 p7,.int .i64 p8,.int .i64 p9,.int .i64 fS,.int .i64 fT,.str pb]),(71,.cells [.int .i64 0,.str [],.bool false,.str []]),(70,.cells [.int .i64 ak,.int .i64 an,.int .i64 ad,.str f])]++Qm S T,74⟩) a7 ?_ ?_
   ·refine To.yE (ex:=[(73,_),(73,_),(72,_),(72,_),(71,_),(70,_)]) (Qj hT) (H4 (by simp[bJ,ai,Qe]) hT) aP av av av (fun b h1 h2=>?_) ?_
    ·rcases (by omega:b=70∨b=71∨b=72∨b=73) with rfl|rfl|rfl|rfl<;>rfl
    ·simp[Qy,Qe,ai,look,aE,az,k0,k3,k4,k5,k7,k8,qT]
   have hB:=Xos c.gl ⟨p1,p2,p3,p4,p5,p6,p7,p8,p9,fS,fT,pb⟩
   unfold Pk.enc at hB
   dsimp only at hB
   refine Jj hB ?_
   (refine Qa (fun h7=>?_) (fun h7=>?_)<;>try exact h7.elim)
   ·rw[if_pos h7]at hx
    obtain ⟨rfl,rfl⟩:=Prod.mk.inj hx
    obtain rfl:=hN rfl
    unfold bS Rp.enc at *
    refine Qh @aM ?_
    refine hR _ ?_
    refine Qg ?_
    exact ⟨(),To.drop (ex:=[(71,_),(73,_),(72,_),(71,_),(70,_)]) (Qj hT) av av (by simp[Qy,Qe,ai,look,aE,az])⟩
   rw[if_neg (by rw[h7];simp)]at hx
   refine Qh (An @aM (An @bH (An @aX @jE))) ?_
   (refine Qa (fun h8=>?_) (fun h8=>?_)<;>try exact h8.elim)
   ·rw[if_pos af]at hx
    obtain ⟨rfl,rfl⟩:=Prod.mk.inj hx
    obtain rfl:=hN rfl
    have A9:=Vf c.gl S T' hS.toNJ hT f hf 6
    generalize S.refuse f 6=rr at *
    obtain ⟨⟨r1,r2,r3,r4⟩,S1⟩:=rr
    unfold Rp.enc at *
    dsimp only at *
    refine Qg ?_
    refine nX (v:=false) (ex:=[(73,_),(72,_),(71,_),(70,_)]) A9 (Qj hT) (Qj hT) (by simp[Qe,ai]) aP av rfl ?_ ?_
    ·exact Qu @Ya
    refine Qg ?_
    refine hR _ ?_
    refine Qg ?_
    exact ⟨(),To.drop (ex:=(71,_)::[(73,_),(72,_),(71,_),(70,_)]) (Qj hT) av av (by simp[Qy,Qe,ai,look,aE,az])⟩
   rw[if_neg af]at hx
   have hO:=Xvq c.gl S.tb hS.ok p1 (p2 - Z2 - 1) p3 ad
   have nZ:(S.tb.cz p1 (p2 - Z2 - 1) p3 ad).1.wf:=by
    obtain ⟨S0,mU⟩:∃ S0:Nat,p2 - Z2 - 1=S0:=⟨(p2 - Z2 - 1).toNat,by omega⟩
    rw[mU]
    exact (opened hS.gt hS.wf (Vu (p:=⟨p1,p2,p3,p4,p5,p6,p7,p8,p9,fS,fT,pb⟩) CW af af yG.2.2.2.2.1.1 yG.2.2.2.2.1.2) ad).wf hS.wf
   have VH:S.opened f (S.tb.cz p1 (p2 - Z2 - 1) p3 ad)=(({ S with tb:=(S.tb.cz p1 (p2 - Z2 - 1) p3 ad).1 }:NS).begin ⟨(S.tb.cz p1 (p2 - Z2 - 1) p3 ad).2.1,p4,p5,pY p1,0,0⟩).dQ f (S.tb.cz p1 (p2 - Z2 - 1) p3 ad).2.1 (if (S.tb.cz p1 (p2 - Z2 - 1) p3 ad).2.2.1 then [({ S with tb:=(S.tb.cz p1 (p2 - Z2 - 1) p3 ad).1 }:NS).ev (S.tb.cz p1 (p2 - Z2 - 1) p3 ad).2.1 false] else []):=by
    unfold NS.opened
    rw[hp]
   generalize S.tb.cz p1 (p2 - Z2 - 1) p3 ad=oo at *
   obtain ⟨tb,⟨x0,x1,x2,x3,x4⟩,tk,oe⟩:=oo
   unfold mN Jo Mp.enc at hO
   dsimp only at hO hx hY nZ VH
   have aJ:=Tb.aD nZ
   have J8:=Tb.b9 tb
   have ss:tb.enc.take 30=tb.enc:=List.take_of_length_le (by rw[aJ];decide)
   refine Qh (An @aM (An @bH (An @aX @eQ))) ?_
   refine Xf hO (An @aM @aJ) ?_
   refine Qh (An @aM @aJ) ?_
   (refine Qa (fun h9=>?_) (fun h9=>?_)<;>try exact h9.elim)
   ·rw[if_pos h9]at hx
    obtain ⟨rfl,rfl⟩:=Prod.mk.inj hx
    obtain rfl:=hN rfl
    have A9:=Vf c.gl S T' hS.toNJ hT f hf oe
    generalize S.refuse f oe=rr at *
    obtain ⟨⟨r1,r2,r3,r4⟩,S1⟩:=rr
    unfold Rp.enc at *
    dsimp only at *
    refine Qg ?_
    refine nX (v:=false) (ex:=[(75,_),(74,_),(75,_),(74,_),(73,_),(72,_),(71,_),(70,_)]) A9 (Qj hT) (Qj hT) (by simp[Qe,ai]) aP av rfl ?_ ?_
    ·exact Qu @Ya
    refine Qg ?_
    refine hR _ ?_
    refine Qg ?_
    exact ⟨(),To.drop (ex:=(71,_)::[(75,_),(74,_),(75,_),(74,_),(73,_),(72,_),(71,_),(70,_)]) (Qj hT) av av (by simp[Qy,Qe,ai,look,aE,az])⟩
   obtain rfl:=h9
   rw[if_neg av,VH]at hx
   obtain ⟨sH,Ba⟩:=Prod.mk.inj hx
   clear hx
   have hs:=hY _ _ _ Ba.symm
   obtain ⟨hxm,eV⟩:=hs.beg NN
   have ep:=NS.D7 hS.wf nZ
   have pw:NB ({ S with tb:=tb }:NS):=hS.toNJ.nb.rK nZ
   have VI:=Xto c.gl p1 [.int .i64 p2,.int .i64 p3,.int .i64 p4,.int .i64 p5,.int .i64 p6,.int .i64 p7,.int .i64 p8,.int .i64 p9,.int .i64 fS,.int .i64 fT,.str pb]
   generalize NS.begin _ _=S1 at *
   unfold pY Fl.enc Wf at eV
   dsimp only at eV
   generalize (if p1=6 then (1:Int) else 2)=fi at *
   refine Qh (An @bH (An @aX (An @aJ (An @ss @ep)))) ?_
   (refine Qa (fun eH=>?_) (fun eH=>?_)<;>try exact eH.elim)
   ·subst eH
    refine Qg ?_
    have ed:=Vj c.gl { S with tb:=tb } T D pw hW ⟨x0,x1,x2,x3,x4⟩ hxm false
    unfold Mp.enc at ed
    dsimp only at ed
    refine D6 (A8 (A:=[(73,_)]) (B:=[(75,_),(74,_),(75,_),(74,_),(73,_),(72,_),(71,_),(70,_)]) (S:=S) (S':={ S with tb:=tb }) (T:=T) rfl av av) ?_
    refine nX (v:=false) (ex:=(73,_)::[(75,_),(74,_),(75,_),(74,_),(73,_),(72,_),(71,_),(70,_)]) ed (Qj hT) (Qj hT) (by simp[Qe,Up]) aP av rfl ?_ ?_
    ·exact Qu @Ya
    refine Qg ?_
    refine Jj VI ?_
    refine Qg ?_
    refine Hk (v:=false) (ex:=(73,_)::[(75,_),(74,_),(75,_),(74,_),(73,_),(72,_),(71,_),(70,_)]) eV (Qj hT) (Qj bu) (by simp[Qe,ai]) aP av av rfl ?_ ?_
    ·exact Qu @Ya
    unfold Jb
    refine Qg ?_
    exact hQ ⟨_,(73,_)::[(75,_),(74,_),(75,_),(74,_),(73,_),(72,_),(71,_),(70,_)],_,_,_,_,S1⟩ ⟨Ba.symm,sH.symm,rfl,rfl,rfl,rfl,rfl,Wk.refl _,by simp,Nat.le_of_ble_eq_true rfl,fun _=>rfl,fun _=>rfl,fun _=>rfl,fun _=>rfl⟩
   ·subst eH
    refine Qg ?_
    refine Jj VI ?_
    refine Qg ?_
    refine Xnu (A8 (A:=[(73,_)]) (B:=[(75,_),(74,_),(75,_),(74,_),(73,_),(72,_),(71,_),(70,_)]) (S:=S) (S':={ S with tb:=tb }) (T:=T) rfl av av) ?_
    refine Hk (v:=false) (ex:=(73,_)::[(75,_),(74,_),(75,_),(74,_),(73,_),(72,_),(71,_),(70,_)]) eV (Qj hT) (Qj bu) (by simp[Qe,ai]) aP av av rfl ?_ ?_
    ·exact Qu @Ya
    unfold Jb
    refine Qg ?_
    exact hQ ⟨_,(73,_)::[(75,_),(74,_),(75,_),(74,_),(73,_),(72,_),(71,_),(70,_)],_,_,_,_,S1⟩ ⟨Ba.symm,sH.symm,rfl,rfl,rfl,rfl,rfl,Wk.nils,by simp,Nat.le_of_ble_eq_true rfl,fun _=>rfl,fun _=>rfl,fun _=>rfl,fun _=>rfl⟩
  ·rw[if_pos h6]at hx
   have NO:th=true:=by
    cases kq:th with
    | true=>rfl
    | false=>exact absurd (Hy kq) h6
   obtain ⟨xk,jq⟩:=VG NO
   rw[xk]at hx
   obtain ⟨sH,Ba⟩:=Prod.mk.inj hx
   clear hx
   have hs:=hY _ _ _ Ba.symm
   have eV:=hs.goes (by rw[NN];exact h6)
   rw[NN]at eV
   generalize NS.goes S _ _ _=S1 at *
   unfold Pk.enc at eV
   dsimp only at eV
   refine Qh (An @k0 (An @k5 @qT)) ?_
   refine Ydz (v:=false) (ex:=[(73,_),(73,_),(72,_),(72,_),(71,_),(70,_)]) eV (Qj hT) (Qj bu) (by simp[Qe,ai]) af av (by simp;omega) rfl ?_ ?_
   ·exact Qu @Ya
   unfold Jb
   refine Qg ?_
   exact hQ ⟨_,[(73,_),(73,_),(72,_),(72,_),(71,_),(70,_)],_,_,_,_,S1⟩ ⟨Ba.symm,sH.symm,k0,k3,k4,k5,k8,Wk.nils,by simp;omega,hn,fun _=>rfl,fun _=>rfl,fun _=>rfl,fun _=>rfl⟩
 obtain ⟨t,ex,N,n,m,es,S1⟩:=i
 obtain ⟨hy,kq,k0,k3,k4,k5,k8,Hv,hex,VJ,Hw,NL,NM,Hx⟩:=hi
 unfold OW.h at *
 have hs:=hY _ _ _ hy
 rw[D8,hp]at kq
 have mT:=Vg c.gl h0 S1 T1 hs.nj bu hs.told es hs.len hs.bR
 obtain ⟨NP,NQ⟩:=hs.a
 have aI:=hs.aR
 have VK:=hs.out
 obtain ⟨z1,z2,z3,z4,z5⟩:=m
 dsimp only at kq aI VK NP NQ k0 k3 k4 k5 k8 Hv hex VJ Hw NL NM Hx ⊢
 obtain ⟨E,hE⟩:∃ E,Yr es=E:=⟨_,rfl⟩
 have rU:∀ n,ai n E:=fun n=>by rw[← hE];exact Up n _
 have Hz:∀ ρ,az ρ E=E:=fun ρ=>by rw[← hE,Yu];exact (List.map_congr_left fun v hv=>ti (Xv.1 (Up 0 es) v hv)).trans (List.map_id _)
 rw[hE]at mT Hv
 obtain ⟨tE,D5⟩:=Vz f 0 (Z3 + z4) z5
 have wv:=Sn c.gl f 0 (Z3 + z4) z5 hf
 rw[D5]at wv
 clear D5
 rw[VF]at aI kq
 generalize Zf f 0 (Z3 + z4) z5=tf at *
 generalize S1.log es=S2 at *
 generalize jD S1.told es=L at *
 generalize es.length=le at *
 have HB:∀ {S:NS} {T:WT},T.wf→HL ([(73,.cells [.int .i64 z1,.int .i64 z2,.int .i64 z3,.int .i64 z4,.int .i64 z5]),(72,.cells [.int .i64 p1,.int .i64 p2,.int .i64 p3,.int .i64 p4,.int .i64 p5,.int .i64 p6,.int .i64 p7,.int .i64 p8,.int .i64 p9,.int .i64 fS,.int .i64 fT,.str pb]),(71,.cells [.int .i64 0,.str [],.bool false,.str []]),(70,.cells [.int .i64 ak,.int .i64 an,.int .i64 ad,.str f])]++Qm S T) 74:=fun hT=>(((Qj hT).more (by simp[bJ,ai,Qe])).more (by simp[bJ,ai,Qe])).more (by simp[bJ,ai,Qe]) |>.more (by simp[bJ,ai,Qe])
 refine Qh (An @k3 (An @Hw (An @k8 @Hx))) ?_
 refine pJ a7 (To.R3 11 (y:=.isl le E) Hv) ?_
 refine pJ (p:=[67]) (s':=⟨[(0,.ptr 67 0),(3,.ptr 70 0),(4,.ptr 71 0),(5,.ptr 72 0),(8,.ptr 73 0),(11,.isl le E),(141,.str f),(144,.int .i64 (Z3 + z4)),(146,.int .i64 z5)],[(73,.cells [.int .i64 z1,.int .i64 z2,.int .i64 z3,.int .i64 z4,.int .i64 z5]),(72,.cells [.int .i64 p1,.int .i64 p2,.int .i64 p3,.int .i64 p4,.int .i64 p5,.int .i64 p6,.int .i64 p7,.int .i64 p8,.int .i64 p9,.int .i64 fS,.int .i64 fT,.str pb]),(71,.cells [.int .i64 0,.str [],.bool false,.str []]),(70,.cells [.int .i64 ak,.int .i64 an,.int .i64 ad,.str f])]++Qm S1 T1,74⟩) a7 ?_ ?_
 ·refine To.kp (ex:=ex) bu (HB bu) aP VJ av hex av (fun b h1 h2=>?_) ?_
  ·rcases (by omega:b=70∨b=71∨b=72∨b=73) with rfl|rfl|rfl|rfl
   ·rw[Hw];rfl
   ·rw[NL];rfl
   ·rw[NM];rfl
   ·rw[Hx];rfl
  ·simp[Qy,Qe,ai,look,aE,az,uW,lw,wx,rU,Hz,k0,k3,k4,k5,k8]
 refine Jj wv ?_
 refine Qg ?_
 refine Xyo (v:=false) (pp:=[67]) (ex:=[(73,_),(72,_),(71,_),(70,_)]) (s3:=⟨[(0,.ptr 67 0),(4,.ptr 71 0),(5,.ptr 72 0),(16,.str tf),(150,.str tf),(153,.str L)],[(73,.cells [.int .i64 z1,.int .i64 z2,.int .i64 z3,.int .i64 z4,.int .i64 z5]),(72,.cells [.int .i64 p1,.int .i64 p2,.int .i64 p3,.int .i64 p4,.int .i64 p5,.int .i64 p6,.int .i64 p7,.int .i64 p8,.int .i64 p9,.int .i64 fS,.int .i64 fT,.str pb]),(71,.cells [.int .i64 0,.str [],.bool false,.str []]),(70,.cells [.int .i64 ak,.int .i64 an,.int .i64 ad,.str f])]++Qm S2 T1,74⟩) a7 mT (Qj bu) (Qj bu) (by simp[Qe]) aP av rfl ?_ ?_ ?_
 ·exact Qu (An @Ya @rU)
 ·refine To.yE (ex:=[(73,_),(72,_),(71,_),(70,_)]) (Qj bu) (HB bu) aP av av av (fun b h1 h2=>?_) ?_
  ·rcases (by omega:b=70∨b=71∨b=72∨b=73) with rfl|rfl|rfl|rfl<;>rfl
  ·simp[Qy,Qe,ai,look,aE,az]
 have kr:=fun n b hb=>Yp (S:=S2) bu n b hb
 refine Qh @kr ?_
 (refine Qa (fun jI=>?_) (fun jI=>?_)<;>try exact jI.elim)
 ·rw[if_pos af]at kq
  subst kq
  have aI:=aI af
  generalize NS.aR S2 tf=w at *
  obtain ⟨⟨r1,r2,r3,r4⟩,S3⟩:=w
  unfold Rp.enc at aI
  dsimp only at aI ⊢
  refine Qg ?_
  refine pZ (v:=false) (pp:=[67]) (ex:=(74,_)::(74,_)::[(73,_),(72,_),(71,_),(70,_)]) (s3:=⟨[(4,.ptr 71 0),(18,.ptr 74 0),(167,.agg [.int .i64 r1,.str r2,.bool r3,.str r4])],(74,.cells [.int .i64 0,.str tf,.bool false,.str L])::[(73,.cells [.int .i64 z1,.int .i64 z2,.int .i64 z3,.int .i64 z4,.int .i64 z5]),(72,.cells [.int .i64 p1,.int .i64 p2,.int .i64 p3,.int .i64 p4,.int .i64 p5,.int .i64 p6,.int .i64 p7,.int .i64 p8,.int .i64 p9,.int .i64 fS,.int .i64 fT,.str pb]),(71,.cells [.int .i64 0,.str [],.bool false,.str []]),(70,.cells [.int .i64 ak,.int .i64 an,.int .i64 ad,.str f])]++Qm S3 T',75⟩) a7 aI (Qj bu) (Qj eW) (by simp[Qe,ai]) aP av av rfl ?_ ?_ ?_
  ·exact Qu @Ya
  ·unfold Jb
   refine To.kp eW ((HB eW).more (by simp[bJ,ai,Qe])) aP aP av av av (fun b h1 h2=>?_) ?_
   ·rcases (by omega:b=70∨b=71∨b=72∨b=73∨b=74) with rfl|rfl|rfl|rfl|rfl<;>rfl
   ·simp[Qy,Qe,ai,look,aE,az,uW,lw,wx]
  have tc:=fun n b hb=>Yp (S:=S3) eW n b hb
  refine Qh @tc ?_
  unfold Rp.enc
  exact ⟨(),To.drop (ex:=[(71,_),(74,_),(74,_),(74,_),(75,_),(75,_),(74,_),(73,_),(72,_),(71,_),(70,_)]) (Qj eW) av av (by simp[Qy,Qe,ai,look,aE,az])⟩
 ·rw[if_neg af]at kq
  subst kq
  obtain rfl:=VK af
  refine Qg ?_
  unfold Rp.enc
  exact ⟨(),To.drop (ex:=[(71,_),(74,_),(74,_),(73,_),(72,_),(71,_),(70,_)]) (Qj bu) av av (by simp[Qy,Qe,ai,look,aE,az])⟩
theorem VL (gl:Nat→AV) (t x:Int):GS Tryz.prog gl 100 [.int .i64 t,.ptr 0 0] [(0,.cells [.int .i64 x])] 1 (.bool (t == x)) [(0,.cells [.int .i64 x])] 1:=by
 refine Xk6.gs (of_decide_eq_true rfl) (by simp[Bk.live]) fun c hN hg=>?_
 conv in aQ _ _=>cbv
 refine Qg ?_
 refine ⟨[],?_⟩
 exact Qw
def qd (x:Int):List Int→Nat→Int
 | [],_=>-1
 | t::l,k=>if t=x then k else qd x l (k + 1)
set_option maxHeartbeats 1000000 in
theorem Xzj (gl:Nat→AV) (l:List Int) (hl:l.length≤1000000) (x:Int):GS Tryz.prog gl 136 [.sl 1 0 0 l.length l.length,.cl 100 [.ptr 1 0]]
  [(0,.cells (Qp l)),(1,.cells [.int .i64 x])] 2 (.int .i64 (qd x l 0)) [(0,.cells (Qp l)),(1,.cells [.int .i64 x])] 2:=by
 refine Hn.gs (of_decide_eq_true rfl) (by simp[Bk.live]) fun c hN hg=>?_
 conv in aQ _ _=>cbv
 have dz:=Yj l
 refine Qg ?_
 refine Um (fun k:Nat=>k≤l.length∧qd x (l.drop k) k=qd x l 0) (fun k=>⟨[(0,.sl 1 0 0 l.length l.length),(1,.cl 100 [.ptr 1 0]),(6,.sl 1 0 0 l.length l.length),(7,.int .i64 l.length),(8,.int .i64 k)],[(0,.cells (Qp l)),(1,.cells [.int .i64 x])],2⟩) (fun k=>l.length - k) Hn.mixed 2 hN
  ⟨0,⟨by omega,rfl⟩,[],by exact Qw⟩ fun k hk=>?_
 obtain ⟨hk,cJ⟩:=hk
 refine Qg ?_
 (refine Qa (fun h1=>?_) (fun h1=>?_)<;>try exact h1.elim)
 ·have bF:k < l.length:=by omega
  have kn:=AZ l k bF
  have gJ:l.drop k=l[k]::l.drop (k + 1):=List.drop_eq_getElem_cons bF
  rw[gJ]at cJ
  rw[qd]at cJ
  generalize l[k]=t at *
  have hc:=VL c.gl t x
  refine Qh (An @dz @kn) ?_
  refine xc (ip [1]) hc (An @dz @kn) ?_
  (refine Qa (fun h2=>?_) (fun h2=>?_)<;>try exact h2.elim)
  ·rw[if_pos (by simpa using h2)]at cJ
   refine Qg ?_
   refine ⟨[],?_⟩
   exact Qu @cJ
  ·rw[if_neg (by simpa using h2)]at cJ
   refine Qg ?_
   refine ⟨k + 1,⟨by omega,cJ⟩,⟨[],?_⟩,by omega⟩
   exact Qw
 ·have:k=l.length:=by omega
  subst this
  rw[List.drop_length]at cJ
  have cJ:(-1:Int)=qd x l 0:=cJ
  refine Qg ?_
  refine ⟨[],?_⟩
  exact Qu @cJ
theorem VM {x:Int}:∀ (l:List Int) (k:Nat),qd x l k=-1→∀ t ∈ l,t≠x
 | [],_,_,t,ht=>by cases ht
 | a::l,k,h,t,ht=>by
  unfold qd at h
  split at h
  ·omega
  ·rcases List.mem_cons.1 ht with rfl|ht
   ·assumption
   ·exact VM l (k + 1) h t ht
theorem VN {x:Int}:∀ (l:List Int) (k:Nat),qd x l k≠-1→∃ i,i < l.length∧qd x l k=((k + i:Nat):Int)∧(∀ t ∈ l.take i,t≠x)∧∃ t,l[i]?=some t∧t=x
 | [],_,h=>absurd rfl h
 | a::l,k,h=>by
  unfold qd at h ⊢
  split at h
  ·rename_i e
   rw[if_pos e]
   exact ⟨0,by simp,by simp,by simp,a,rfl,e⟩
  ·rename_i e
   rw[if_neg e]
   obtain ⟨i,h1,h2,h3,t,h4,h5⟩:=VN l (k + 1) h
   refine ⟨i + 1,by simpa using h1,by rw[h2];omega,fun y hy=>?_,t,by simpa using h4,h5⟩
   rw[List.take_succ_cons]at hy
   rcases List.mem_cons.1 hy with rfl|hy
   ·exact e
   ·exact h3 y hy
theorem Xsf:zU Tryz.prog 52 1:=KE (by kernel_rfl)
def dY (x:Int) (l:List Int):List Int:=l.filter fun t=>!(t == x)
theorem Xdq (l:List Int) (k:Nat) (h:k≤l.length):(Qp l).take k=Qp (l.take k):=by simp[Qp]
set_option maxHeartbeats 2000000 in
theorem Xyv (gl:Nat→AV) (l:List Int) (hl:l.length≤1000000) (x:Int):GS Tryz.prog gl 99 [.sl 1 0 0 l.length l.length,.cl 100 [.ptr 1 0]]
  [(0,.cells (Qp l)),(1,.cells [.int .i64 x])] 2 (.sl 1 0 0 (dY x l).length l.length) [(0,.cells (Qp (dY x l))),(1,.cells [.int .i64 x])] 2:=by
 refine Va.gs (of_decide_eq_true rfl) (by simp[Bk.live]) fun c hN hg=>?_
 conv in aQ _ _=>cbv
 have dz:=Yj l
 have hi:=Xzj c.gl l hl x
 refine Qg ?_
 ((first|refine Qx (ins:=[0,1]) hi ?_ ?_|refine Qt (ins:=[0,1]) hi ?_ ?_|refine Qs (ins:=[0,1]) hi ?_ ?_|refine Qq (ins:=[0,1]) hi ?_ ?_)<;>(have au:=@dz;refine XG ?_;clear au;(try first|exact rfl|exact True.intro);((try (repeat' with_reducible refine And.intro ?_ ?_));(try any_goals (first|refine zm ?_|exact CL|fail)))))
 ·decide
 by_cases cd:qd x l 0=-1
 ·have ew:dY x l=l:=List.filter_eq_self.2 fun t ht=>by simpa using VM l 0 cd t ht
  rw[ew]
  (refine Qa (fun h1=>?_) (fun h1=>?_)<;>try exact h1.elim)
  ·refine Qg ?_
   refine ⟨[],?_⟩
   exact Qw
  ·exact absurd cd (by simpa using h1)
 ·obtain ⟨i0,q1,q2,q3,t0,q4,q5⟩:=VN l 0 cd
  rw[Nat.zero_add]at q2
  rw[q2]
  (refine Qa (fun h1=>?_) (fun h1=>?_)<;>try exact h1.elim)
  ·omega
  refine Qg ?_
  refine Um (fun y:Nat × Nat × List Int=>y.1 < y.2.1∧y.2.1≤l.length∧y.2.2.length=l.length∧y.2.2.take y.1=dY x (l.take y.2.1)∧y.2.2.drop y.2.1=l.drop y.2.1)
   (fun y=>⟨[(0,.sl 1 0 0 l.length l.length),(1,.cl 100 [.ptr 1 0]),(5,.int .i64 y.1),(6,.int .i64 y.2.1)],[(0,.cells (Qp y.2.2)),(1,.cells [.int .i64 x])],2⟩) (fun y=>l.length - y.2.1) Va.mixed 2 hN
   ⟨(i0,i0 + 1,l),⟨by simp,by show i0 + 1≤l.length;omega,rfl,?_,rfl⟩,[],by exact Qw⟩ fun y hy=>?_
  ·have:l.take (i0 + 1)=l.take i0++[t0]:=by rw[List.take_succ,q4];rfl
   show l.take i0=dY x (l.take (i0 + 1))
   rw[this]
   unfold dY
   rw[List.filter_append,List.filter_eq_self.2 fun t ht=>by simpa using q3 t ht]
   simp[q5]
  obtain ⟨i,j,M⟩:=y
  obtain ⟨iG,mo,hM,bW,mP⟩:=hy
  dsimp only at iG mo hM bW mP ⊢
  have uJ:=Yj M
  refine Qg ?_
  (refine Qa (fun h2=>?_) (fun h2=>?_)<;>try exact h2.elim)
  ·have ln:j < l.length:=by omega
   have Dy:j < M.length:=by omega
   have a8:=AZ M j Dy
   have MR:M[j]=l[j]:=by
    have e1:(M.drop j)[0]?=M[j]?:=by simp
    have e2:(l.drop j)[0]?=l[j]?:=by simp
    rw[mP,e2]at e1
    simpa [ln,Dy] using e1.symm
   have eQ:dY x (l.take (j + 1))=if M[j]=x then dY x (l.take j) else dY x (l.take j)++[M[j]]:=by
    have:l.take (j + 1)=l.take j++[M[j]]:=by rw[List.take_succ,MR];simp[ln]
    rw[this]
    unfold dY
    rw[List.filter_append]
    split<;>simp_all
   have gJ:M.drop (j + 1)=l.drop (j + 1):=by
    have:=congrArg (List.drop 1) mP
    simpa [List.drop_drop,Nat.add_comm] using this
   have bw:(Qp M).set i (.int .i64 M[j])=Qp (M.set i M[j]):=by simp[Qp,List.map_set]
   have gY:((M.set i M[j]).take (i + 1))=M.take i++[M[j]]:=by
    rw[List.take_succ,List.take_set_of_le (Nat.le_refl i)]
    simp[show i < M.length by omega]
   have ya:(M.set i M[j]).drop (j + 1)=M.drop (j + 1):=by rw[List.drop_set_of_lt af]
   have jk:(M.set i M[j]).length=l.length:=by simp[hM]
   have htS:=Yj (M.set i M[j])
   generalize M[j]=t at *
   have hc:=VL c.gl t x
   refine Qh (An @uJ @a8) ?_
   refine xc (ip [1]) hc (An @uJ @a8) ?_
   (refine Qa (fun h3=>?_) (fun h3=>?_)<;>try exact h3.elim)
   ·rw[if_neg h3]at eQ
    refine Qh (An @uJ @bw) ?_
    refine ⟨(i + 1,j + 1,M.set i t),⟨by dsimp only;omega,by dsimp only;omega,jk,by rw[gY,bW,eQ],by rw[ya,gJ]⟩,⟨[],?_⟩,by dsimp only;omega⟩
    exact Qw
   ·rw[if_pos (by simpa using h3)]at eQ
    refine Qh @uJ ?_
    refine ⟨(i,j + 1,M),⟨by dsimp only;omega,by dsimp only;omega,hM,by rw[bW,eQ],gJ⟩,⟨[],?_⟩,by dsimp only;omega⟩
    exact Qw
  ·obtain rfl:j=l.length:=by omega
   rw[List.take_length]at bW
   have fw:(dY x l).length=i:=by rw[← bW,List.length_take];omega
   have gT:=Xdq M i af
   rw[bW]at gT
   refine Qg ?_
   (refine FV Xsf ?_;(have au:=@gT;refine XG ?_;clear au;((try (repeat' with_reducible refine And.intro ?_ ?_));(try any_goals (first|refine zm ?_|exact CL|fail)))))
   refine Qg ?_
   refine ⟨[],?_⟩
   exact Qu @fw
end Go.Proofs.YtogckmommodmhaaGreatDoor
