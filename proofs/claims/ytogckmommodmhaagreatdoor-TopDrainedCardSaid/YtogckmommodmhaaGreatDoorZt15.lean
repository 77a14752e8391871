import Derived.Test.YtogckmommodmhaaGreatDoorZt14
import Derived.Test.YtogckmommodmhaaGreatDoorZt9
import Derived.Test.YtogckmommodmhaaGreatDoorZt12
set_option maxHeartbeats 16000000
namespace Go.Proofs.YtogckmommodmhaaGreatDoor
open Go.RowKit
set_option linter.all false
set_option linter.unusedSimpArgs false
set_option maxRecDepth 100000
theorem Vw (f:List UInt8) (side addr port:Int):∃ e,qM f side addr port=.aX [.str (Yq f side addr port),.int .i64 e]:=by
 unfold qM Yq
 split
 ·exact ⟨_,rfl⟩
 ·split
  ·exact ⟨_,rfl⟩
  ·exact ⟨_,rfl⟩
theorem To.iq {p:List Nat} {t t':List (Nat × AV)} {ex ex':List (Nat × Bk)} {S:NS} {T:WT} {N n k:Nat} (hT:T.wf) (H':HL (ex'++Qm S T) k) (hk:70≤k) (hkN:k≤N) (kj:∀ q ∈ ex',70≤q.1) (hex:∀ q ∈ ex,70≤q.1∧q.1 < N) (hp:∀ b ∈ p,b=67)
  (hl:∀ b,70≤b→b < k→Qc (ex++Xc (cC id [67] N) (Qm S T)) n b=Xg (lw (cC id [67] N) 70) (Qc (ex'++Qm S T) k b)) (ht:Qu (lw (cC id [67] N) 70) k t t'):To p ⟨t,ex++Xc (cC id [67] N) (Qm S T),n⟩ ⟨t',ex'++Qm S T,k⟩:=by
 have hs:∀ b,b < 70→cC id [67] N b=67∧b=67∨cC id [67] N b=N + b∧b≠67:=fun b hb=>by
  by_cases e:b=67
  ·subst e;exact .inl ⟨Wm au,rfl⟩
  ·exact .inr ⟨Wp (by simpa using e),e⟩
 refine To.mid (Qj hT) H' hk kj (fun b b' hb bJ e=>?_) (fun q hq b hb e=>?_) (fun b hb b' h1 h2 e=>?_) (fun b hb=>?_) hl ht
 ·rcases hs b hb with ⟨h1,h2⟩|⟨h1,h2⟩<;>rcases hs b' bJ with ⟨h3,h4⟩|⟨h3,h4⟩<;>omega
 ·have:=hex q hq
  rcases hs b hb with ⟨h1,h2⟩|⟨h1,h2⟩<;>omega
 ·rcases hs b hb with ⟨h3,h4⟩|⟨h3,h4⟩<;>omega
 ·obtain rfl:=hp b hb
  exact ⟨rfl,by omega⟩
theorem To.yS {p:List Nat} {t t':List (Nat × AV)} {h ex ex':List (Nat × Bk)} {m n k:Nat} (H:HL h m) (H':HL (ex'++h) k) (S5:m≤k) (kj:∀ q ∈ ex',m≤q.1) (hex:∀ q ∈ ex,m≤q.1) (hp:∀ b ∈ p,b < k) (hl:∀ b,m≤b→b < k→Qc (ex++h) n b=Qc (ex'++h) k b) (ht:Qu id k t t'):To p ⟨t,ex++h,n⟩ ⟨t',ex'++h,k⟩:=by
 refine To.mV id H' (fun b hb=>⟨rfl,hp b hb⟩) (fun b b' _ _ e=>e) (fun b hb=>?_) ht
 rw[Ws]
 show Qc (ex++h) n b=_
 by_cases h1:b < m
 ·rw[Xm fun q hq e=>by have:=hex q hq;omega,Xm fun q hq e=>by have:=kj q hq;omega,H.lo h1 n,H.lo h1 k]
 ·exact hl b af hb
def bK (S:NS) (m:Mp) (r:Int) (x:Int):Bool:=S.fl.any fun q=>q.1 == x && (decide (q.2.map=m) && q.2.rem == r)
theorem NZ {S:NS} (hd:S.fl.Pairwise fun p q=>p.1≠q.1) {q:Int × Fl} (hq:q ∈ S.fl) (m:Mp) (r:Int):bK S m r q.1=(decide (q.2.map=m) && q.2.rem == r):=by
 unfold bK
 rw[Bool.eq_iff_iff,List.any_eq_true]
 constructor
 ·rintro ⟨x,hx,h⟩
  rw[Bool.and_eq_true,beq_iff_eq]at h
  rw[← Et hd hx hq h.1];exact h.2
 ·intro h
  exact ⟨q,hq,by rw[h];simp⟩
theorem Yda {S:NS} (hd:S.fl.Pairwise fun p q=>p.1≠q.1) (m:Mp) (r:Int):S.keys.any (bK S m r)=S.fl.any fun q=>decide (q.2.map=m) && q.2.rem == r:=by
 unfold NS.keys
 rw[List.any_map,Bool.eq_iff_iff,List.any_eq_true,List.any_eq_true]
 constructor<;>rintro ⟨q,hq,h⟩
 ·exact ⟨q,hq,by rw[← NZ hd hq];exact h⟩
 ·exact ⟨q,hq,by show bK S m r q.1=true;rw[NZ hd hq];exact h⟩
theorem qb (N:Nat):lw (cC id [67] N) 70 67=67:=rfl
theorem Eu {S:NS} {T:WT} (hT:T.wf):HL ((70,Bk.cells [.ptr 67 0])::Qm S T) 71:=(Qj hT).more (by simp[bG,ai,Qe])
theorem Ew (S:NS) (f:List UInt8):S.aN f =
  if bP f≠0 then (bR (bP f),S) else
  if (az f).dst - 3405803777 < 0∨3≤(az f).dst - 3405803777 then (bR 7,S) else
  if (az f).ae=1∧(az f).flags≠0 then (bR 4,S) else
  if (az f).av=1 then (bR 12,S) else
  match S.tb.maps.find? (Je (az f).ae ((az f).dst - 3405803777) (az f).aj) with
  | none=>(bR 7,S)
  | some m =>
   if S.findF m (az f).aA (az f).ah≠0 then (⟨0,Yq f 1 (167772161 + m.s) m.aN,true,[]⟩,S.goes (S.findF m (az f).aA (az f).ah) (az f) true) else
   if S.loose=false∧(S.fl.any fun q=>decide (q.2.map=m) && q.2.rem == (az f).aA)=false then (bR 11,S) else
   if (az f).ae≠17∨48≤S.fl.length then (bR 11,S) else
   (⟨0,Yq f 1 (167772161 + m.s) m.aN,true,[]⟩,S.begin ⟨m,(az f).aA,(az f).ah,2,0,0⟩):=rfl
theorem Ex {S:NS} {m:Mp} {r rp:Int} (h:S.findF m r rp≠0):∃ q ∈ S.fl,S.findF m r rp=q.1∧q.2.map=m∧q.2.rem=r∧q.2.rport=rp:=by
 unfold NS.findF at h ⊢
 split
 ·rename_i q hq
  have h1:=List.find?_some hq
  simp only[Bool.and_eq_true,decide_eq_true_eq,beq_iff_eq]at h1
  exact ⟨q,List.mem_of_find?_eq_some hq,rfl,h1.1.1,h1.1.2,h1.2⟩
 ·rename_i hq
  rw[hq]at h
  exact absurd rfl h
theorem N0 (f:List UInt8):∃ (p:Pk) (e:Int),Kt f=.aX [.agg p.enc,.int .i64 e]∧(e=0→bP f=0∧az f=p∧(p.ae=1∨p.ae=6∨p.ae=17)∧Ji p)∧(e≠0→bP f=e):=by
 by_cases he:bP f=0
 ·exact ⟨az f,0,by unfold Kt;rw[if_pos he],fun _=>⟨he,rfl,NW he⟩,fun h=>(h rfl).elim⟩
 ·exact ⟨ew,bP f,by unfold Kt;rw[if_neg he],fun h=>(he h).elim,fun _=>rfl⟩
theorem Yf3 (gl:Nat→AV) (S:NS) (T T1:WT) (hS:NI S) (hT:T.wf) (bj:T1.wf) (f:List UInt8) (hf:f.length≤140737488351232) (x:Rp × NS) (hx:S.aN f=x) (ha:x.1.code≠0→T1=T)
  (hb:x.1.code=0→∀ m,S.tb.maps.find? (Je (az f).ae ((az f).dst - 3405803777) (az f).aj)=some m →
   (∀ q ∈ S.fl,S.findF m (az f).aA (az f).ah=q.1→GD Tryz.prog gl 93 [.ptr 67 0,.int .i64 q.1,.agg (az f).enc,.bool true] (Qm S T) 70 [67] (.aX []) (Qm (S.goes q.1 (az f) true) T1)) ∧
   (S.findF m (az f).aA (az f).ah=0→GD Tryz.prog gl 91 [.ptr 67 0,.agg (Fl.enc ⟨m,(az f).aA,(az f).ah,2,0,0⟩)] (Qm S T) 70 [67] (.aX []) (Qm (S.begin ⟨m,(az f).aA,(az f).ah,2,0,0⟩) T1))) :
  GD Tryz.prog gl 59 [.ptr 67 0,.str f] (Qm S T) 70 [67] (.agg x.1.enc) (Qm x.2 T1):=by
 refine Ydr.gq (of_decide_eq_true rfl) (Zs hT) au fun c aY hg=>?_
 subst hg
 conv in aO _ _=>cbv
 have aH:=fun n b hb=>Ya (S:=S) hT n b hb
 have bI:=Kx S T
 have aV:=NS.aS hS.wf
 have eW:=NS.eY hS.wf
 have jI:=NS.jI hS.wf
 have uH:=NS.uH hS.wf
 have N1:=hS.len
 have hP:=Wu c.gl f hf
 obtain ⟨Z1,qc,so⟩:∃ Z:Int,(3405803776:Int)=Z∧0≤Z∧Z≤4294967296:=⟨_,rfl,by decide,by decide⟩
 obtain ⟨Z2,uO,N2⟩:∃ Z:Int,(167772161:Int)=Z∧0≤Z∧Z≤4294967296:=⟨_,rfl,by decide,by decide⟩
 rw[qc,uO]
 obtain ⟨p,e,jF,Ey,Da⟩:=N0 f
 rw[jF]at hP
 rw[Ew]at hx
 obtain ⟨p1,p2,p3,p4,p5,p6,p7,p8,p9,fS,fT,pb⟩:=p
 unfold Pk.enc at hP
 dsimp only at hP
 refine Qh @aH ?_
 ((first|apply Yx|apply Ym|apply Xz|apply Xs)<;>(first|exact hP|(refine XG ?_;first|exact rfl|exact True.intro|((try (repeat' with_reducible refine And.intro ?_ ?_));(try any_goals (first|refine zm ?_|exact CL|fail))))))
 exact Qr @aH
 (refine Qa (fun h1=>?_) (fun h1=>?_)<;>try exact h1.elim)
 ·have he:=Da h1
  subst he
  rw[if_pos h1]at hx
  subst hx
  obtain rfl:=ha (by first|exact h1|simp[bR])
  unfold bR Rp.enc
  refine Qh @aH ?_
  exact ⟨(),To.drop (ex:=[(71,_),(72,_),(72,_),(71,_),(70,_)]) (Qj hT) au au (by simp[Qu,Qe,ai,look,aD,ay])⟩
 obtain ⟨he,hp,Du,yT⟩:=Ey h1
 rw[if_neg (by rw[he];simp)]at hx
 rw[hp]at hx hb
 unfold Ji at yT
 dsimp only at hx hb Du yT
 refine Qf ?_
 (refine Qa (fun h2=>?_) (fun h2=>?_)<;>try exact h2.elim)
 ·rw[if_pos af]at hx
  subst hx
  obtain rfl:=ha (by first|exact h1|simp[bR])
  unfold bR Rp.enc
  refine Qh @aH ?_
  exact ⟨(),To.drop (ex:=[(71,_),(72,_),(72,_),(71,_),(70,_)]) (Qj hT) au au (by simp[Qu,Qe,ai,look,aD,ay])⟩
 rw[if_neg af]at hx
 refine Qf ?_
 (refine Qa (fun h3=>?_) (fun h3=>?_)<;>try exact h3.elim)
 ·rw[if_pos af]at hx
  subst hx
  obtain rfl:=ha (by first|exact h1|simp[bR])
  unfold bR Rp.enc
  refine Qh @aH ?_
  exact ⟨(),To.drop (ex:=[(71,_),(72,_),(72,_),(71,_),(70,_)]) (Qj hT) au au (by simp[Qu,Qe,ai,look,aD,ay])⟩
 rw[if_neg af]at hx
 refine Qf ?_
 (refine Qa (fun h4=>?_) (fun h4=>?_)<;>try exact h4.elim)
 ·rw[if_pos af]at hx
  subst hx
  obtain rfl:=ha (by first|exact h1|simp[bR])
  unfold bR Rp.enc
  refine Qh @aH ?_
  exact ⟨(),To.drop (ex:=[(71,_),(72,_),(72,_),(71,_),(70,_)]) (Qj hT) au au (by simp[Qu,Qe,ai,look,aD,ay])⟩
 rw[if_neg af]at hx
 have kc:=L4 c.gl S.tb hS.wf (by have:=vK (Wc.2 hS.gt);omega) p1 (p4 - Z1 - 1) p5
 rw[show p4 - 3405803777=p4 - Z1 - 1 by omega]at hx hb
 refine Qh (An @bI (An @aV @eW)) ?_
 cases hm:S.tb.maps.find? (Je p1 (p4 - Z1 - 1) p5) with
 | none =>
  rw[hm]at kc hx
  unfold lH at kc
  dsimp only at kc hx
  rw[show fF.enc=[.int .i64 0,.int .i64 0,.int .i64 0,.int .i64 0,.int .i64 0] from rfl]at kc
  refine Qy kc @aH ?_
  (refine Qa (fun h5=>?_) (fun h5=>?_)<;>try exact h5.elim)
  subst hx
  obtain rfl:=ha (by first|exact h1|simp[bR])
  unfold bR Rp.enc
  refine Qh @aH ?_
  exact ⟨(),To.drop (ex:=[(71,_),(73,_),(73,_),(72,_),(72,_),(71,_),(70,_)]) (Qj hT) au au (by simp[Qu,Qe,ai,look,aD,ay])⟩
 | some m =>
  rw[hm]at kc hx
  unfold lH at kc
  dsimp only at kc hx
  have hb:=fun h=>hb h m hm
  have kL:=Va c.gl S T hS.toNJ hT m p2 p3
  obtain ⟨tE,Ez⟩:=Vw f 1 (Z2 + m.s) m.aN
  have wj:=Sr c.gl f 1 (Z2 + m.s) m.aN hf
  rw[Ez]at wj
  obtain ⟨_,⟨N3,N4⟩,_⟩:=Kp (hS.gt.maps m (List.mem_of_find?_eq_some hm)).1.1
  clear Ez
  rw[uO]at hx
  generalize Yq f 1 (Z2 + m.s) m.aN=tf at *
  have Vx:=@Ex S m p2 p3
  obtain ⟨mp,ms,mi,ma,mt⟩:=m
  generalize hkF:S.findF ⟨mp,ms,mi,ma,mt⟩ p2 p3=k at *
  unfold Mp.enc at kc kL
  dsimp only at kc kL hx hb wj N3 N4
  have HU:∀ {S:NS} {T:WT},T.wf→HL ([(73,.cells [.int .i64 mp,.int .i64 ms,.int .i64 mi,.int .i64 ma,.int .i64 mt]),(72,.cells [.int .i64 p1,.int .i64 p2,.int .i64 p3,.int .i64 p4,.int .i64 p5,.int .i64 p6,.int .i64 p7,.int .i64 p8,.int .i64 p9,.int .i64 fS,.int .i64 fT,.str pb]),(71,.cells [.int .i64 0,.str [],.bool false,.str []]),(70,.cells [.ptr 67 0])]++Qm S T) 74:=fun hT=>((Eu hT).more (by simp[bG,ai,Qe])).more (by simp[bG,ai,Qe]) |>.more (by simp[bG,ai,Qe])
  refine Qy kc @aH ?_
  (refine Qa (fun h5=>?_) (fun h5=>?_)<;>try exact h5.elim)
  refine Qh @aH ?_
  refine oT (v:=false) (ex:=[(73,_),(73,_),(72,_),(72,_),(71,_),(70,_)]) kL (Qj hT) (Qj hT) (by simp[Qe]) aR au rfl ?_ ?_
  ·exact Qr (An @Xw @aH)
  refine Qf ?_
  (refine Qa (fun h6=>?_) (fun h6=>?_)<;>try exact h6.elim)
  ·rw[if_pos h6]at hx
   subst hx
   obtain ⟨q,hq,e,_⟩:=Vx h6
   have eT:=(hb rfl).1 q hq e
   subst e
   generalize NS.goes S _ _ true=S1 at *
   unfold Pk.enc at eT
   dsimp only at eT
   refine Qf ?_
   refine Uu (v:=false) (pp:=[67]) (ex:=[(73,_),(73,_),(72,_),(72,_),(71,_),(70,_)]) (s3:=⟨[(1,.str f),(4,.ptr 71 0),(8,.ptr 73 0)],[(73,.cells [.int .i64 mp,.int .i64 ms,.int .i64 mi,.int .i64 ma,.int .i64 mt]),(72,.cells [.int .i64 p1,.int .i64 p2,.int .i64 p3,.int .i64 p4,.int .i64 p5,.int .i64 p6,.int .i64 p7,.int .i64 p8,.int .i64 p9,.int .i64 fS,.int .i64 fT,.str pb]),(71,.cells [.int .i64 0,.str [],.bool false,.str []]),(70,.cells [.ptr 67 0])]++Qm S1 T1,74⟩) aY eT (Qj hT) (Qj bj) (by simp[Qe,ai]) aR au au rfl ?_ ?_ ?_
   ·exact Qr @Xw
   ·unfold Zq
    refine To.iq bj (HU bj) aR aR au au au (fun b h1 h2=>?_) ?_
    ·rcases (by omega:b=70∨b=71∨b=72∨b=73) with rfl|rfl|rfl|rfl<;>rfl
    ·simp[Qu,Qe,ai,look,aD,ay,qb,lw]
   refine Qf ?_
   refine Zg wj ?_
   refine Qf ?_
   unfold Rp.enc
   exact ⟨(),To.drop (ex:=[(71,_),(73,_),(72,_),(71,_),(70,_)]) (Qj bj) au au (by simp[Qu,Qe,ai,look,aD,ay])⟩
  rw[if_neg af]at hx
  cases fq:S.loose with
  | false =>
   rw[fq]at uH hx
   refine Qh (An @bI (An @aV (An @uH @jI))) ?_
   ((refine vn ?_ ?_ ?_);(focus (have aB:=@bI;have aQ:=@aV;have a8:=@uH;refine XG ?_;clear aB aQ a8;try first|exact rfl|exact True.intro));(focus (have aB:=@bI;have aQ:=@aV;have a8:=@uH;refine XG ?_;clear aB aQ a8;try trivial)))
   have H4:=HU (S:=S) hT
   refine nn (p:=[67]) (s':=⟨[(1,.str f),(2,.ptr 70 0),(4,.ptr 71 0),(5,.ptr 72 0),(8,.ptr 73 0),(90,.bool true),(94,.dp true (.sl 1 69 0 S.fl.length S.fl.length)),(95,.dp true (.cl 97 [.ptr 70 0,.ptr 73 0,.ptr 72 0]))],[(73,.cells [.int .i64 mp,.int .i64 ms,.int .i64 mi,.int .i64 ma,.int .i64 mt]),(72,.cells [.int .i64 p1,.int .i64 p2,.int .i64 p3,.int .i64 p4,.int .i64 p5,.int .i64 p6,.int .i64 p7,.int .i64 p8,.int .i64 p9,.int .i64 fS,.int .i64 fT,.str pb]),(71,.cells [.int .i64 0,.str [],.bool false,.str []]),(70,.cells [.ptr 67 0])]++Qm S T,74⟩) aY ?_ ?_
   ·refine To.yS (ex:=[(73,_),(73,_),(72,_),(72,_),(71,_),(70,_)]) (Qj hT) H4 aR au au au (fun b h1 h2=>?_) ?_
    ·rcases (by omega:b=70∨b=71∨b=72∨b=73) with rfl|rfl|rfl|rfl<;>rfl
    ·simp[Qu,Qe,ai,look,aD,ay]
   have rK:=Vr c.gl (l:=S.keys) (kb:=69) (f:=97) (caps:=[.ptr 70 0,.ptr 73 0,.ptr 72 0]) (b:=bK S ⟨mp,ms,mi,ma,mt⟩ p2) H4 (by simp[NS.keys];omega) aR (fun n=>rfl) (by simp[ai,Qe]) (fun x hx=>by
    obtain ⟨q,hq,rfl⟩:=List.mem_map.1 hx
    rw[NZ hS.dM hq]
    exact Ya2 c.gl (p:=⟨p1,p2,p3,p4,p5,p6,p7,p8,p9,fS,fT,pb⟩) hS.toNJ H4 (fun n=>rfl) (fun n=>rfl) (fun n=>rfl) (fun n=>rfl) (fun n=>rfl) hq)
   rw[Yda hS.dM,show S.keys.length=S.fl.length by simp[NS.keys]]at rK
   refine oT (v:=false) (ex:=[]) rK H4 H4 (by simp[Qe]) aR au rfl ?_ ?_
   ·exact Qr @Xw
   generalize (S.fl.any fun q=>decide (q.2.map=⟨mp,ms,mi,ma,mt⟩) && q.2.rem == p2)=any at *
   refine Qf ?_
   (refine Qa (fun h7=>?_) (fun h7=>?_)<;>try exact h7.elim)
   ·subst h7
    rw[if_pos ⟨rfl,rfl⟩]at hx
    subst hx
    obtain rfl:=ha (by first|exact h1|simp[bR])
    unfold bR Rp.enc
    refine Qh @aH ?_
    exact ⟨(),To.drop (ex:=[(71,_),(73,_),(72,_),(71,_),(70,_)]) (Qj hT) au au (by simp[Qu,Qe,ai,look,aD,ay])⟩
   rw[if_neg (by simpa using h7)]at hx
   refine Qh (An @bI (An @aV @jI)) ?_
   (refine Qa (fun h8=>?_) (fun h8=>?_)<;>try exact h8.elim)
   ·rw[if_pos af]at hx
    subst hx
    obtain rfl:=ha (by first|exact h1|simp[bR])
    unfold bR Rp.enc
    refine Qh @aH ?_
    exact ⟨(),To.drop (ex:=[(71,_),(73,_),(72,_),(71,_),(70,_)]) (Qj hT) au au (by simp[Qu,Qe,ai,look,aD,ay])⟩
   ·rw[if_neg af]at hx
    subst hx
    have eT:=(hb rfl).2 af
    generalize NS.begin S _=S1 at *
    unfold Fl.enc Up at eT
    dsimp only at eT
    refine Qh (An @bI (An @aV @jI)) ?_
    refine Uu (v:=false) (pp:=[67]) (ex:=[(73,_),(72,_),(71,_),(70,_)]) (s3:=⟨[(1,.str f),(4,.ptr 71 0),(8,.ptr 73 0)],[(73,.cells [.int .i64 mp,.int .i64 ms,.int .i64 mi,.int .i64 ma,.int .i64 mt]),(72,.cells [.int .i64 p1,.int .i64 p2,.int .i64 p3,.int .i64 p4,.int .i64 p5,.int .i64 p6,.int .i64 p7,.int .i64 p8,.int .i64 p9,.int .i64 fS,.int .i64 fT,.str pb]),(71,.cells [.int .i64 0,.str [],.bool false,.str []]),(70,.cells [.ptr 67 0])]++Qm S1 T1,74⟩) aY eT (Qj hT) (Qj bj) (by simp[Qe,ai]) aR au au rfl ?_ ?_ ?_
    ·exact Qr @Xw
    ·unfold Zq
     refine To.iq bj (HU bj) aR aR au au au (fun b h1 h2=>?_) ?_
     ·rcases (by omega:b=70∨b=71∨b=72∨b=73) with rfl|rfl|rfl|rfl<;>rfl
     ·simp[Qu,Qe,ai,look,aD,ay,qb,lw]
    refine Qf ?_
    refine Zg wj ?_
    refine Qf ?_
    unfold Rp.enc
    exact ⟨(),To.drop (ex:=[(71,_),(73,_),(72,_),(71,_),(70,_)]) (Qj bj) au au (by simp[Qu,Qe,ai,look,aD,ay])⟩
  | true =>
   rw[fq]at uH hx
   rw[if_neg au]at hx
   refine Qh (An @bI (An @aV @uH)) ?_
   ((first|apply Yo|apply Yc)<;>(have aB:=@bI;have aQ:=@aV;have a8:=@uH;refine XG ?_;clear aB aQ a8;first|exact rfl|exact True.intro|((try (repeat' with_reducible refine And.intro ?_ ?_));(try any_goals (first|refine zm ?_|exact CL|fail)))))
   refine Qf ?_
   (refine Qa (fun h7=>?_) (fun h7=>?_)<;>try exact h7.elim)
   refine Qh (An @bI (An @aV @jI)) ?_
   (refine Qa (fun h8=>?_) (fun h8=>?_)<;>try exact h8.elim)
   ·rw[if_pos af]at hx
    subst hx
    obtain rfl:=ha (by first|exact h1|simp[bR])
    unfold bR Rp.enc
    refine Qh @aH ?_
    exact ⟨(),To.drop (ex:=[(71,_),(73,_),(73,_),(72,_),(72,_),(71,_),(70,_)]) (Qj hT) au au (by simp[Qu,Qe,ai,look,aD,ay])⟩
   ·rw[if_neg af]at hx
    subst hx
    have eT:=(hb rfl).2 af
    generalize NS.begin S _=S1 at *
    unfold Fl.enc Up at eT
    dsimp only at eT
    refine Qh (An @bI (An @aV @jI)) ?_
    refine Uu (v:=false) (pp:=[67]) (ex:=[(73,_),(73,_),(72,_),(72,_),(71,_),(70,_)]) (s3:=⟨[(1,.str f),(4,.ptr 71 0),(8,.ptr 73 0)],[(73,.cells [.int .i64 mp,.int .i64 ms,.int .i64 mi,.int .i64 ma,.int .i64 mt]),(72,.cells [.int .i64 p1,.int .i64 p2,.int .i64 p3,.int .i64 p4,.int .i64 p5,.int .i64 p6,.int .i64 p7,.int .i64 p8,.int .i64 p9,.int .i64 fS,.int .i64 fT,.str pb]),(71,.cells [.int .i64 0,.str [],.bool false,.str []]),(70,.cells [.ptr 67 0])]++Qm S1 T1,74⟩) aY eT (Qj hT) (Qj bj) (by simp[Qe,ai]) aR au au rfl ?_ ?_ ?_
    ·exact Qr @Xw
    ·unfold Zq
     refine To.iq bj (HU bj) aR aR au au au (fun b h1 h2=>?_) ?_
     ·rcases (by omega:b=70∨b=71∨b=72∨b=73) with rfl|rfl|rfl|rfl<;>rfl
     ·simp[Qu,Qe,ai,look,aD,ay,qb,lw]
    refine Qf ?_
    refine Zg wj ?_
    refine Qf ?_
    unfold Rp.enc
    exact ⟨(),To.drop (ex:=[(71,_),(73,_),(72,_),(71,_),(70,_)]) (Qj bj) au au (by simp[Qu,Qe,ai,look,aD,ay])⟩
def Vy (gl:Nat→AV) (S:NS) (T:WT) (f:List UInt8) (x:Rp × NS):Prop:=∃ T' D',WI T' x.2.now D'∧D'.Perm x.2.a6∧(x.1.code≠0→T'=T)∧(x.1.code=0→∀ m,S.tb.maps.find? (Je (az f).ae ((az f).dst - 3405803777) (az f).aj)=some m →
   (∀ q ∈ S.fl,S.findF m (az f).aA (az f).ah=q.1→GD Tryz.prog gl 93 [.ptr 67 0,.int .i64 q.1,.agg (az f).enc,.bool true] (Qm S T) 70 [67] (.aX []) (Qm (S.goes q.1 (az f) true) T')) ∧
   (S.findF m (az f).aA (az f).ah=0→GD Tryz.prog gl 91 [.ptr 67 0,.agg (Fl.enc ⟨m,(az f).aA,(az f).ah,2,0,0⟩)] (Qm S T) 70 [67] (.aX []) (Qm (S.begin ⟨m,(az f).aA,(az f).ah,2,0,0⟩) T')))
theorem Vz (gl:Nat→AV) (S:NS) (T:WT) (D:List Tm) (hS:NI S) (uI:S.b8≤1000000) (hW:WI T S.now D) (hD:D.Perm S.a6) (f:List UInt8) (hf:f.length≤140737488351232):∃ T' D',WI T' (S.aN f).2.now D'∧D'.Perm (S.aN f).2.a6 ∧
  GD Tryz.prog gl 59 [.ptr 67 0,.str f] (Qm S T) 70 [67] (.agg (S.aN f).1.enc) (Qm (S.aN f).2 T'):=by
 have key:∀ x,S.aN f=x→Vy gl S T f x:=by
  intro x hx
  have stay:∀ r:Rp,r.code≠0→x=(r,S)→Vy gl S T f x:=fun r hr e=>by
   subst e
   exact ⟨T,D,hW,hD,fun _=>rfl,fun h=>(hr h).elim⟩
  rw[Ew]at hx
  split at hx
  ·rename_i h;exact stay _ h hx.symm
  split at hx
  ·exact stay (bR 7) aR hx.symm
  split at hx
  ·exact stay (bR 4) aR hx.symm
  split at hx
  ·exact stay (bR 12) aR hx.symm
  split at hx
  ·exact stay (bR 7) aR hx.symm
  rename_i m hm
  split at hx
  ·rename_i hk
   obtain ⟨q,hq,e,_⟩:=Ex hk
   obtain ⟨T1,D1,di,jq,hg⟩:=Vo gl S T D hS hW hD q hq (az f) true
   subst hx
   rw[e]
   refine ⟨T1,D1,di,jq,fun h=>(h rfl).elim,fun _ m' yh=>?_⟩
   obtain rfl:=Option.some.inj (hm.symm.trans yh)
   exact ⟨fun q' cF e'=>by rw[show q'.1=q.1 from e'.symm.trans e];exact hg,fun e'=>(hk e').elim⟩
  rename_i hk
  split at hx
  ·exact stay (bR 11) aR hx.symm
  split at hx
  ·exact stay (bR 11) aR hx.symm
  rename_i h8
  obtain ⟨T1,D1,di,jq,hg⟩:=Vk gl S T D hS.toNJ.nb uI hW hD af m (az f).aA (az f).ah 2
  subst hx
  refine ⟨T1,D1,di,jq,fun h=>(h rfl).elim,fun _ m' yh=>?_⟩
  obtain rfl:=Option.some.inj (hm.symm.trans yh)
  exact ⟨fun q' cF e'=>absurd (by rw[e'];have:=(hS.ids q' cF).1;omega) hk,fun _=>hg⟩
 obtain ⟨T',D',h1,h2,h3,h4⟩:=key _ rfl
 exact ⟨T',D',h1,h2,Yf3 gl S T T' hS hW.wf h1.wf f hf _ rfl h3 h4⟩
theorem Xw4 (gl:Nat→AV) (p:Int) (r:List AV):PS Tryz.prog gl 92 [.agg (.int .i64 p::r)] (.int .i64 (if p=6 then 1 else 2)):=by
 refine Xvl.ps (of_decide_eq_true rfl) (by simp[Qe]) fun c hN hg=>?_
 conv in aO _ _=>cbv
 refine Qf ?_
 (repeat' (first|((refine Qa (fun hh=>?_) (fun hh=>?_)<;>try exact hh.elim)<;>exact Qs) ))
 all_goals simp_all
theorem Xnu (gl:Nat→AV) (p:Pk):PS Tryz.prog gl 87 [.agg p.enc] (.bool (yJ p.ae p.flags)):=by
 refine Xrl.ps (of_decide_eq_true rfl) (by simp[Qe]) fun c hN hg=>?_
 conv in aO _ _=>cbv
 obtain ⟨p1,p2,p3,p4,p5,p6,p7,p8,p9,fS,fT,pb⟩:=p
 unfold Pk.enc yJ
 dsimp only
 refine Qf ?_
 (refine Qa (fun h1=>?_) (fun h1=>?_)<;>try exact h1.elim)
 ·subst h1
  exact Qs
 refine Qf ?_
 (refine Qa (fun h2=>?_) (fun h2=>?_)<;>try exact h2.elim)
 ·subst h2
  exact Qs
 refine Qf ?_
 by_cases h3:p1=17
 ·subst h3;rfl
 ·rw[if_neg h3,if_neg h1]
  simp[h2,h3]
section
variable {P:Program} {c:Cx}
theorem EA {o:bF} {r0:List bF} {K:St→Prop} {s s2:St} (e:s.fs=s2.fs) (h:Yl P c o r0 K s2):Yl P c o r0 K s:=by
 unfold Yl I1 FF at h ⊢
 rw[e];exact h
theorem Xqa {anc:List Nat} {o:bF} {r0:List bF} {fs:List bq} {K:St→Prop} {s s2:St} (e:s.fs=s2.fs) (h:Zr P c anc o r0 fs K s2):Zr P c anc o r0 fs K s:=by
 unfold Zr I2 at h ⊢
 rw[e];exact h
end
theorem Bt {A B:List (Nat × Bk)} {S S':NS} {T:WT} {n:Nat} {t:List (Nat × AV)} (kz:S'.fl=S.fl) (hA:∀ q ∈ A,q.1≠67) (hB:∀ q ∈ B,q.1≠67):(⟨t,A++((67,.cells S'.cells)::(B++Qm S T)),n⟩:St).fs=(⟨t,(A++B)++Qm S' T,n⟩:St).fs:=by
 refine pA (fun _=>rfl) fun b=>?_
 show Qc _ n b=Qc _ n b
 by_cases h:b=67
 ·subst h
  rw[Xm hA,Qd,if_pos rfl,List.append_assoc,Xm hA,Xm hB]
  rfl
 ·have e1:Qc ((67,Bk.cells S'.cells)::(B++Qm S T)) n b=Qc (B++Qm S' T) n b:=by
   rw[Qd,if_neg fun e=>h e.symm]
   refine C6 ?_
   unfold Qm NS.keys
   rw[kz]
   show Qc ((67,_)::_) n b=Qc ((67,_)::_) n b
   rw[Qd,if_neg fun e=>h e.symm]
   conv=>rhs;rw[Qd,if_neg fun e=>h e.symm]
  rw[List.append_assoc]
  exact C6 e1
section
variable {P:Program} {c:Cx} {h h1 ex:List (Nat × Bk)} {m n:Nat} {v:Bool} {d:Option Nat} {kk:PK} {f:FuncId} {xs:List TV} {args:List AV} {r:AV} {t:List (Nat × AV)} {r0:List bF} {K:St→Prop}
theorem Xzg {pp:List Nat} {s3:St} (aY:∀ q ∈ c.gh,q.1 ∈ pp) (hq:GD P c.gl f args h m (List.range m) r h1) (H:HL h m) (H1:HL h1 m) (hr:Qe m r) (hn:m≤n) (hex:∀ q ∈ ex,m≤q.1∧q.1 < n) (hk:kk=(bif v then .cu else .call f))
  (hc:Qv none (aG c.gl (⟨t,ex++h,n⟩:St).fs xs)∧mK v f ((aG c.gl (⟨t,ex++h,n⟩:St).fs xs).map Qk)=some (f,args)∧ai m args) (il:To pp (St.bQ ⟨t,ex++h1,n + m⟩ d r) s3) (hx:XP P c r0 K s3):Yl P c (.pd d kk xs none) r0 K ⟨t,ex++h,n⟩ :=
 Uu aY hq H H1 hr hn (fun b hb=>List.mem_range.1 hb) hex hk hc (by rw[HF H1 hr];exact il) hx
end
theorem NS.EB {S:NS} (h:S.tb.wf) {tb:Tb} (hw:tb.wf):Yu S.cells 0 tb.enc=({ S with tb:=tb }:NS).cells:=by
 unfold Yu NS.cells
 rw[List.take_zero,List.nil_append,Nat.zero_add,Tb.aC hw,← Tb.aC h,List.drop_left]
 rfl
theorem Xn4 (f:List UInt8) (ae av:Int) (a w:Nat) (addr port:Int):(Yn f ae av a w addr port).length=f.length:=by
 have dD:∀ b pr m n,(tl b pr m n).length=b.length:=fun b pr m n=>by unfold tl;split<;>simp[Ju]
 unfold Yn
 dsimp only
 split<;>simp only[LL,Qq,dD]
theorem EC (f:List UInt8) (side addr port:Int):(Yq f side addr port).length≤f.length:=by
 unfold Yq
 split
 ·simp
 ·split
  ·simp
  ·rw[Xn4];exact Nat.le_refl _
theorem rL (N:Nat):cC id [67] N 67=67:=rfl
section
variable {P:Program} {c:Cx} {h h1 ex:List (Nat × Bk)} {m n:Nat} {v:Bool} {d:Option Nat} {kk:PK} {f:FuncId} {xs:List TV} {args:List AV} {r:AV} {t:List (Nat × AV)} {r0:List bF} {K:St→Prop}
theorem VA {ι:Type} (J:ι→Prop) (st:ι→St) {A:TC} {Q:EX→St→Prop} {s:St} (h2:∀ i,J i→Q .normal (st i)) (h1:∀ Q':EX→St→Prop,(∀ i,J i→Q' .normal (st i))→(∀ s,Q .ret s→Q' .ret s)→xw P c A Q' s):xw P c A Q s:=h1 Q h2 fun _ h=>h
theorem Ye7 {p:List Nat} (hq:GD P c.gl f args h m p r h1) (H:HL h m) (H1:HL h1 m) (hr:Qe m r) (hn:m≤n) (hp:∀ b ∈ p,b < m) (hex:∀ q ∈ ex,m≤q.1∧q.1 < n) (hk:kk=(bif v then .cu else .call f))
  (hc:Qv none (aG c.gl (⟨t,ex++h,n⟩:St).fs xs)∧mK v f ((aG c.gl (⟨t,ex++h,n⟩:St).fs xs).map Qk)=some (f,args)∧ai m args) (hx:XP P c r0 K (Zq t ex h1 id p m n d r)):Yl P c (.pd d kk xs none) r0 K ⟨t,ex++h,n⟩:=by
 have:=Lu (d:=d) (r0:=r0) (K:=K) hq (Bm (v:=v) H hn hp hex hc) hk H1 hr hx
 rw[Kj]at this;exact this
end
theorem wm (S:NS) (f:List UInt8) (m:Mp) (es:List Ev):S.en f m es =
  if 0≤(az f).dst - 3405803777∧(az f).dst - 3405803777 < 3 then
   (⟨((S.log es).aN (Yq f 0 (3405803777 + m.a) m.port)).1.code,((S.log es).aN (Yq f 0 (3405803777 + m.a) m.port)).1.frame,((S.log es).aN (Yq f 0 (3405803777 + m.a) m.port)).1.inner,pZ S.told es⟩,((S.log es).aN (Yq f 0 (3405803777 + m.a) m.port)).2)
  else (⟨0,Yq f 0 (3405803777 + m.a) m.port,false,pZ S.told es⟩,S.log es):=rfl
noncomputable def NS.mX (S:NS) (f:List UInt8) (draw:Int):(Rp × NS) × Option (Mp × List Ev × NS) :=
 if bP f≠0 then ((bR (bP f),S),none) else
 if (az f).aA - 167772161 < 0∨8≤(az f).aA - 167772161 then ((bR 7,S),none) else
 if (az f).ae=1∧(az f).flags≠8 then ((bR 4,S),none) else
 if (az f).av=1 then ((bR 12,S),none) else
 if S.cR (az f)≠0 then (match S.fwd (az f) with
  | some m=>((S.goes (S.cR (az f)) (az f) false).en f m [],some (m,[],S.goes (S.cR (az f)) (az f) false))
  | none=>((bR 0,S),none))
 else if yJ (az f).ae (az f).flags=false then ((bR 11,S),none) else
 if 48≤S.fl.length then (S.refuse f 6,none) else
 if (S.tb.cx (az f).ae ((az f).aA - 167772161) (az f).ah draw).2.2.2≠0 then (S.refuse f (S.tb.cx (az f).ae ((az f).aA - 167772161) (az f).ah draw).2.2.2,none) else
 (S.opened f (S.tb.cx (az f).ae ((az f).aA - 167772161) (az f).ah draw),some ((S.tb.cx (az f).ae ((az f).aA - 167772161) (az f).ah draw).2.1,
  (if (S.tb.cx (az f).ae ((az f).aA - 167772161) (az f).ah draw).2.2.1 then [({ S with tb:=(S.tb.cx (az f).ae ((az f).aA - 167772161) (az f).ah draw).1 }:NS).ev (S.tb.cx (az f).ae ((az f).aA - 167772161) (az f).ah draw).2.1 false] else []),
  ({ S with tb:=(S.tb.cx (az f).ae ((az f).aA - 167772161) (az f).ah draw).1 }:NS).begin ⟨(S.tb.cx (az f).ae ((az f).aA - 167772161) (az f).ah draw).2.1,(az f).dst,(az f).aj,rz (az f).ae,0,0⟩))
theorem Ycv (S:NS) (f:List UInt8) (d:Int):(S.mX f d).1=S.out f d:=by
 rw[Br]
 unfold NS.mX
 (repeat' split)<;>first|rfl|(simp_all;done)
structure uP (gl:Nat→AV) (S:NS) (T T1 T':WT) (f:List UInt8) (p:Pk) (x:Tb) (m:Mp) (es:List Ev) (S1:NS):Prop where
 nj:NJ S1
 told:S1.told≤100000
 len:es.length≤64
 ca:∀ e ∈ es,Ul e.t e.s e.a e.b=true∧e.t=(es.headD ⟨0,0,0,0,false⟩).t
 a:0≤m.a∧m.a < 3
 goes:S.cR p≠0→GD Tryz.prog gl 93 [.ptr 67 0,.int .i64 (S.cR p),.agg p.enc,.bool false] (Qm S T) 70 [67] (.aX []) (Qm S1 T1)
 beg:S.cR p=0→DB m∧GD Tryz.prog gl 91 [.ptr 67 0,.agg (Fl.enc ⟨m,p.dst,p.aj,rz p.ae,0,0⟩)] (Qm { S with tb:=x } T) 70 [67] (.aX []) (Qm S1 T1)
 aN:0≤p.dst - 3405803777∧p.dst - 3405803777 < 3→GD Tryz.prog gl 59 [.ptr 67 0,.str (Yq f 0 (3405803777 + m.a) m.port)] (Qm (S1.log es) T1) 70 [67] (.agg ((S1.log es).aN (Yq f 0 (3405803777 + m.a) m.port)).1.enc) (Qm ((S1.log es).aN (Yq f 0 (3405803777 + m.a) m.port)).2 T')
 out:¬ (0≤p.dst - 3405803777∧p.dst - 3405803777 < 3)→T'=T1
structure OW where
 t:List (Nat × AV)
 ex:List (Nat × Bk)
 N:Nat
 n:Nat
 m:Mp
 es:List Ev
 S1:NS
def OW.h (T1:WT) (i:OW):List (Nat × Bk):=i.ex++Xc (cC id [67] i.N) (Qm i.S1 T1)
structure OJ (T1:WT) (f:List UInt8) (pc ac:List AV) (x:Rp × NS) (y:Option (Mp × List Ev × NS)) (i:OW):Prop where
 y:y=some (i.m,i.es,i.S1)
 x:x=i.S1.en f i.m i.es
 k0:look i.t 0=.ptr 67 0
 k3:look i.t 3=.ptr 70 0
 k4:look i.t 4=.ptr 71 0
 k5:look i.t 5=.ptr 72 0
 k8:look i.t 8=.ptr 73 0
 HV:Wk (look i.t 11) (.isl i.es.length (Zn i.es))
 ex:∀ q ∈ i.ex,70≤q.1∧q.1 < i.N
 N:74≤i.N
 HX:∀ n,Qc (i.h T1) n 70=.cells ac
 N5:∀ n,Qc (i.h T1) n 71=.cells [.int .i64 0,.str [],.bool false,.str []]
 N6:∀ n,Qc (i.h T1) n 72=.cells pc
 HY:∀ n,Qc (i.h T1) n 73=.cells [.int .i64 i.m.ae,.int .i64 i.m.s,.int .i64 i.m.aN,.int .i64 i.m.a,.int .i64 i.m.port]
theorem Ye2 (gl:Nat→AV) (h0:gl 0=.xp (Qp Xi) 0) (S:NS) (T T1 T':WT) (D:List Tm) (hS:NI S) (hW:WI T S.now D) (bj:T1.wf) (eU:T'.wf) (ak an ad:Int) (f:List UInt8) (hf:f.length≤140737488351232) (x:Rp × NS) (y:Option (Mp × List Ev × NS)) (hx:S.mX f ad=(x,y)) (hN:y=none→T'=T)
  (hY:∀ m es S1,y=some (m,es,S1)→uP gl S T T1 T' f (az f) (S.tb.cx (az f).ae ((az f).aA - 167772161) (az f).ah ad).1 m es S1) :
  GD Tryz.prog gl 58 [.ptr 67 0,.agg [.int .i64 ak,.int .i64 an,.int .i64 ad,.str f]] (Qm S T) 70 [67] (.agg x.1.enc) (Qm x.2 T'):=by
 have hT:=hW.wf
 refine Xyw.gq (of_decide_eq_true rfl) (Zs hT) au fun c aY hg=>?_
 subst hg
 conv in aO _ _=>cbv
 have aH:=fun n b hb=>Ya (S:=S) hT n b hb
 have bI:=Kx S T
 have aV:=NS.aS hS.wf
 have eW:=NS.eY hS.wf
 have jI:=NS.jI hS.wf
 have N1:=hS.len
 have hP:=Wu c.gl f hf
 obtain ⟨Z1,qc,so⟩:∃ Z:Int,(3405803776:Int)=Z∧0≤Z∧Z≤4294967296:=⟨_,rfl,by decide,by decide⟩
 obtain ⟨Z2,uO,N2⟩:∃ Z:Int,(167772160:Int)=Z∧0≤Z∧Z≤4294967296:=⟨_,rfl,by decide,by decide⟩
 obtain ⟨Z3,VB,hz3⟩:∃ Z:Int,(3405803777:Int)=Z∧0≤Z∧Z≤4294967296:=⟨_,rfl,by decide,by decide⟩
 rw[qc,uO,VB]
 obtain ⟨p,e,jF,Ey,Da⟩:=N0 f
 rw[jF]at hP
 unfold NS.mX at hx
 obtain ⟨p1,p2,p3,p4,p5,p6,p7,p8,p9,fS,fT,pb⟩:=p
 unfold Pk.enc at hP
 dsimp only at hP
 refine Qh @aH ?_
 ((first|apply Yx|apply Ym|apply Xz|apply Xs)<;>(first|exact hP|(refine XG ?_;first|exact rfl|exact True.intro|((try (repeat' with_reducible refine And.intro ?_ ?_));(try any_goals (first|refine zm ?_|exact CL|fail))))))
 exact Qr @aH
 (refine Qa (fun h1=>?_) (fun h1=>?_)<;>try exact h1.elim)
 ·have he:=Da h1
  subst he
  rw[if_pos h1]at hx
  obtain ⟨rfl,rfl⟩:=Prod.mk.inj hx
  obtain rfl:=hN rfl
  unfold bR Rp.enc at *
  refine Qh @aH ?_
  exact ⟨(),To.drop (ex:=[(71,_),(72,_),(72,_),(71,_),(70,_)]) (Qj hT) au au (by simp[Qu,Qe,ai,look,aD,ay])⟩
 obtain ⟨he,hp,Du,yT⟩:=Ey h1
 rw[if_neg (by rw[he];simp),hp]at hx
 rw[hp]at hY
 unfold Ji at yT
 dsimp only at hx hY Du yT
 refine Qf ?_
 (refine Qa (fun h2=>?_) (fun h2=>?_)<;>try exact h2.elim)
 ·rw[if_pos af]at hx
  obtain ⟨rfl,rfl⟩:=Prod.mk.inj hx
  obtain rfl:=hN rfl
  unfold bR Rp.enc at *
  refine Qh @aH ?_
  exact ⟨(),To.drop (ex:=[(71,_),(72,_),(72,_),(71,_),(70,_)]) (Qj hT) au au (by simp[Qu,Qe,ai,look,aD,ay])⟩
 rw[if_neg af]at hx
 refine Qf ?_
 (refine Qa (fun h3=>?_) (fun h3=>?_)<;>try exact h3.elim)
 ·rw[if_pos af]at hx
  obtain ⟨rfl,rfl⟩:=Prod.mk.inj hx
  obtain rfl:=hN rfl
  unfold bR Rp.enc at *
  refine Qh @aH ?_
  exact ⟨(),To.drop (ex:=[(71,_),(72,_),(72,_),(71,_),(70,_)]) (Qj hT) au au (by simp[Qu,Qe,ai,look,aD,ay])⟩
 rw[if_neg af]at hx
 refine Qf ?_
 (refine Qa (fun h4=>?_) (fun h4=>?_)<;>try exact h4.elim)
 ·rw[if_pos af]at hx
  obtain ⟨rfl,rfl⟩:=Prod.mk.inj hx
  obtain rfl:=hN rfl
  unfold bR Rp.enc at *
  refine Qh @aH ?_
  exact ⟨(),To.drop (ex:=[(71,_),(72,_),(72,_),(71,_),(70,_)]) (Qj hT) au au (by simp[Qu,Qe,ai,look,aD,ay])⟩
 rw[if_neg af]at hx
 have iG:=L3 c.gl S.tb hS.wf (by have:=vK (Wc.2 hS.gt);omega) p1 (p2 - Z2 - 1) p3
 rw[show p2 - 167772161=p2 - Z2 - 1 by omega]at hx hY
 refine Qh (An @bI (An @aV @eW)) ?_
 obtain ⟨m,th,Eb,VC,yU⟩:∃ m th,lH (S.tb.maps.find? (Ze p1 (p2 - Z2 - 1) p3))=.aX [.agg (Mp.enc m),.bool th]∧(th=true→S.fwd ⟨p1,p2,p3,p4,p5,p6,p7,p8,p9,fS,fT,pb⟩=some m∧S.cR ⟨p1,p2,p3,p4,p5,p6,p7,p8,p9,fS,fT,pb⟩=S.findF m p4 p5)∧(th=false→S.cR ⟨p1,p2,p3,p4,p5,p6,p7,p8,p9,fS,fT,pb⟩=0):=by
  have e1:S.fwd ⟨p1,p2,p3,p4,p5,p6,p7,p8,p9,fS,fT,pb⟩=S.tb.maps.find? (Ze p1 (p2 - Z2 - 1) p3):=by
   rw[show p2 - Z2 - 1=p2 - 167772161 by omega];rfl
  unfold NS.cR
  rw[e1]
  cases S.tb.maps.find? (Ze p1 (p2 - Z2 - 1) p3) with
  | none=>exact ⟨fF,false,rfl,by simp,fun _=>rfl⟩
  | some m=>exact ⟨m,true,rfl,fun _=>⟨rfl,rfl⟩,by simp⟩
 rw[Eb]at iG
 clear Eb
 have kL:=Va c.gl S T hS.toNJ hT m p4 p5
 have Vx:=fun h=>@Ex S m p4 p5 h
 generalize N7:S.cR ⟨p1,p2,p3,p4,p5,p6,p7,p8,p9,fS,fT,pb⟩=k at *
 obtain ⟨m1,m2,m3,m4,m5⟩:=m
 unfold Mp.enc at iG kL
 dsimp only at iG kL
 refine Qy iG @aH ?_
 refine VA (fun y:List (Nat × AV) × Nat=>look y.1 0=.ptr 67 0∧look y.1 3=.ptr 70 0∧look y.1 4=.ptr 71 0∧look y.1 5=.ptr 72 0∧look y.1 7=.int .i64 (p2 - Z2 - 1)∧look y.1 8=.ptr 73 0∧look y.1 10=.int .i64 k∧74≤y.2)
  (fun y=>⟨y.1,[(73,.cells [.int .i64 m1,.int .i64 m2,.int .i64 m3,.int .i64 m4,.int .i64 m5]),(73,.cells [.int .i64 0,.int .i64 0,.int .i64 0,.int .i64 0,.int .i64 0]),(72,.cells [.int .i64 p1,.int .i64 p2,.int .i64 p3,.int .i64 p4,.int .i64 p5,.int .i64 p6,.int .i64 p7,.int .i64 p8,.int .i64 p9,.int .i64 fS,.int .i64 fT,.str pb]),(72,.cells [.int .i64 0,.int .i64 0,.int .i64 0,.int .i64 0,.int .i64 0,.int .i64 0,.int .i64 0,.int .i64 0,.int .i64 0,.int .i64 0,.int .i64 0,.str []]),(71,.cells [.int .i64 0,.str [],.bool false,.str []]),(70,.cells [.int .i64 ak,.int .i64 an,.int .i64 ad,.str f])]++Qm S T,y.2⟩) (fun y hy=>?_) fun Q' hQ hR=>?_
 rotate_left
 ·(refine Qa (fun h5=>?_) (fun h5=>?_)<;>try exact h5.elim)
  ·obtain ⟨qE,gY⟩:=VC h5
   subst gY
   refine Qh @aH ?_
   refine oT (v:=false) (ex:=[(73,_),(73,_),(72,_),(72,_),(71,_),(70,_)]) kL (Qj hT) (Qj hT) (by simp[Qe]) aR au rfl ?_ ?_
   ·exact Qr (An @Xw @aH)
   refine Qf ?_
   exact hQ (_,_) ⟨rfl,rfl,rfl,rfl,rfl,rfl,rfl,Nat.le_of_ble_eq_true rfl⟩
  ·obtain rfl:=yU h5
   refine Qf ?_
   exact hQ (_,_) ⟨rfl,rfl,rfl,rfl,rfl,rfl,rfl,Nat.le_of_ble_eq_true rfl⟩
 obtain ⟨t,n⟩:=y
 obtain ⟨k0,k3,k4,k5,k7,k8,qL,hn⟩:=hy
 dsimp only at k0 k3 k4 k5 k7 k8 qL hn ⊢
 refine Qh @qL ?_
 refine VA (OJ T1 f [.int .i64 p1,.int .i64 p2,.int .i64 p3,.int .i64 p4,.int .i64 p5,.int .i64 p6,.int .i64 p7,.int .i64 p8,.int .i64 p9,.int .i64 fS,.int .i64 fT,.str pb] [.int .i64 ak,.int .i64 an,.int .i64 ad,.str f] x y) (fun i=>⟨i.t,i.h T1,i.n⟩) (fun i hi=>?_) fun Q' hQ hR=>?_
 rotate_left
 ·(refine Qa (fun h6=>?_) (fun h6=>?_)<;>try exact h6.elim)
  ·subst h6
   rw[if_neg au]at hx
   have H4:∀ {m:List AV},bG 74 (.cells m)→∀ {S:NS} {T:WT},T.wf→HL ([(73,.cells m),(72,.cells [.int .i64 p1,.int .i64 p2,.int .i64 p3,.int .i64 p4,.int .i64 p5,.int .i64 p6,.int .i64 p7,.int .i64 p8,.int .i64 p9,.int .i64 fS,.int .i64 fT,.str pb]),(71,.cells [.int .i64 0,.str [],.bool false,.str []]),(70,.cells [.int .i64 ak,.int .i64 an,.int .i64 ad,.str f])]++Qm S T) 74:=fun hm _ _ hT=>(((Qj hT).more (by simp[bG,ai,Qe])).more (by simp[bG,ai,Qe])).more (by simp[bG,ai,Qe]) |>.more hm
   refine Qh (An @aH @k5) ?_
   refine nn (p:=[67]) (s':=⟨[(0,.ptr 67 0),(3,.ptr 70 0),(4,.ptr 71 0),(5,.ptr 72 0),(7,.int .i64 (p2 - Z2 - 1)),(8,.ptr 73 0),(10,.int .i64 0),(11,.nils),(78,.agg [.int .i64 p1,.int .i64 p2,.int .i64 p3,.int .i64 p4,.int .i64 p5,.int .i64 p6,.int .i64 p7,.int .i64 p8,.int .i64 p9,.int .i64 fS,.int .i64 fT,.str pb])],[(73,.cells [.int .i64 m1,.int .i64 m2,.int .i64 m3,.int .i64 m4,.int .i64 m5]),(72,.cells [.int .i64 p1,.int .i64 p2,.int .i64 p3,.int .i64 p4,.int .i64 p5,.int .i64 p6,.int .i64 p7,.int .i64 p8,.int .i64 p9,.int .i64 fS,.int .i64 fT,.str pb]),(71,.cells [.int .i64 0,.str [],.bool false,.str []]),(70,.cells [.int .i64 ak,.int .i64 an,.int .i64 ad,.str f])]++Qm S T,74⟩) aY ?_ ?_
   ·refine To.yS (ex:=[(73,_),(73,_),(72,_),(72,_),(71,_),(70,_)]) (Qj hT) (H4 (by simp[bG,ai,Qe]) hT) aR au au au (fun b h1 h2=>?_) ?_
    ·rcases (by omega:b=70∨b=71∨b=72∨b=73) with rfl|rfl|rfl|rfl<;>rfl
    ·simp[Qu,Qe,ai,look,aD,ay,k0,k3,k4,k5,k7,k8,qL]
   have hB:=Xnu c.gl ⟨p1,p2,p3,p4,p5,p6,p7,p8,p9,fS,fT,pb⟩
   unfold Pk.enc at hB
   dsimp only at hB
   refine Zg hB ?_
   (refine Qa (fun h7=>?_) (fun h7=>?_)<;>try exact h7.elim)
   ·rw[if_pos h7]at hx
    obtain ⟨rfl,rfl⟩:=Prod.mk.inj hx
    obtain rfl:=hN rfl
    unfold bR Rp.enc at *
    refine Qh @aH ?_
    refine hR _ ?_
    refine Qf ?_
    exact ⟨(),To.drop (ex:=[(71,_),(73,_),(72,_),(71,_),(70,_)]) (Qj hT) au au (by simp[Qu,Qe,ai,look,aD,ay])⟩
   rw[if_neg (by rw[h7];simp)]at hx
   refine Qh (An @aH (An @bI (An @aV @jI))) ?_
   (refine Qa (fun h8=>?_) (fun h8=>?_)<;>try exact h8.elim)
   ·rw[if_pos af]at hx
    obtain ⟨rfl,rfl⟩:=Prod.mk.inj hx
    obtain rfl:=hN rfl
    have rM:=Vc c.gl S T' hS.toNJ hT f hf 6
    generalize S.refuse f 6=rr at *
    obtain ⟨⟨r1,r2,r3,r4⟩,S1⟩:=rr
    unfold Rp.enc at *
    dsimp only at *
    refine Qf ?_
    refine oT (v:=false) (ex:=[(73,_),(72,_),(71,_),(70,_)]) rM (Qj hT) (Qj hT) (by simp[Qe,ai]) aR au rfl ?_ ?_
    ·exact Qr @Xw
    refine Qf ?_
    refine hR _ ?_
    refine Qf ?_
    exact ⟨(),To.drop (ex:=(71,_)::[(73,_),(72,_),(71,_),(70,_)]) (Qj hT) au au (by simp[Qu,Qe,ai,look,aD,ay])⟩
   rw[if_neg af]at hx
   have hO:=Xxi c.gl S.tb hS.ok p1 (p2 - Z2 - 1) p3 ad
   have nT:(S.tb.cx p1 (p2 - Z2 - 1) p3 ad).1.wf:=by
    obtain ⟨S0,lU⟩:∃ S0:Nat,p2 - Z2 - 1=S0:=⟨(p2 - Z2 - 1).toNat,by omega⟩
    rw[lU]
    exact (opened hS.gt hS.wf (NV (p:=⟨p1,p2,p3,p4,p5,p6,p7,p8,p9,fS,fT,pb⟩) Du af af yT.2.2.2.2.1.1 yT.2.2.2.2.1.2) ad).wf hS.wf
   have ED:S.opened f (S.tb.cx p1 (p2 - Z2 - 1) p3 ad)=(({ S with tb:=(S.tb.cx p1 (p2 - Z2 - 1) p3 ad).1 }:NS).begin ⟨(S.tb.cx p1 (p2 - Z2 - 1) p3 ad).2.1,p4,p5,rz p1,0,0⟩).en f (S.tb.cx p1 (p2 - Z2 - 1) p3 ad).2.1 (if (S.tb.cx p1 (p2 - Z2 - 1) p3 ad).2.2.1 then [({ S with tb:=(S.tb.cx p1 (p2 - Z2 - 1) p3 ad).1 }:NS).ev (S.tb.cx p1 (p2 - Z2 - 1) p3 ad).2.1 false] else []):=by
    unfold NS.opened
    rw[hp]
   generalize S.tb.cx p1 (p2 - Z2 - 1) p3 ad=oo at *
   obtain ⟨tb,⟨x0,x1,x2,x3,x4⟩,tk,oe⟩:=oo
   unfold mP Jm Mp.enc at hO
   dsimp only at hO hx hY nT ED
   have aJ:=Tb.aC nT
   have KO:=Tb.bw tb
   have wU:tb.enc.take 30=tb.enc:=List.take_of_length_le (by rw[aJ];decide)
   refine Qh (An @aH (An @bI (An @aV @eW))) ?_
   refine Qy hO (An @aH @aJ) ?_
   refine Qh (An @aH @aJ) ?_
   (refine Qa (fun h9=>?_) (fun h9=>?_)<;>try exact h9.elim)
   ·rw[if_pos h9]at hx
    obtain ⟨rfl,rfl⟩:=Prod.mk.inj hx
    obtain rfl:=hN rfl
    have rM:=Vc c.gl S T' hS.toNJ hT f hf oe
    generalize S.refuse f oe=rr at *
    obtain ⟨⟨r1,r2,r3,r4⟩,S1⟩:=rr
    unfold Rp.enc at *
    dsimp only at *
    refine Qf ?_
    refine oT (v:=false) (ex:=[(75,_),(74,_),(75,_),(74,_),(73,_),(72,_),(71,_),(70,_)]) rM (Qj hT) (Qj hT) (by simp[Qe,ai]) aR au rfl ?_ ?_
    ·exact Qr @Xw
    refine Qf ?_
    refine hR _ ?_
    refine Qf ?_
    exact ⟨(),To.drop (ex:=(71,_)::[(75,_),(74,_),(75,_),(74,_),(73,_),(72,_),(71,_),(70,_)]) (Qj hT) au au (by simp[Qu,Qe,ai,look,aD,ay])⟩
   obtain rfl:=h9
   rw[if_neg au,ED]at hx
   obtain ⟨sB,Bu⟩:=Prod.mk.inj hx
   clear hx
   have hs:=hY _ _ _ Bu.symm
   obtain ⟨hxm,eT⟩:=hs.beg N7
   have dN:=NS.EB hS.wf nT
   have pn:NB ({ S with tb:=tb }:NS):=hS.toNJ.nb.rB nT
   have VD:=Xw4 c.gl p1 [.int .i64 p2,.int .i64 p3,.int .i64 p4,.int .i64 p5,.int .i64 p6,.int .i64 p7,.int .i64 p8,.int .i64 p9,.int .i64 fS,.int .i64 fT,.str pb]
   generalize NS.begin _ _=S1 at *
   unfold rz Fl.enc Up at eT
   dsimp only at eT
   generalize (if p1=6 then (1:Int) else 2)=fi at *
   refine Qh (An @bI (An @aV (An @aJ (An @wU @dN)))) ?_
   (refine Qa (fun ed=>?_) (fun ed=>?_)<;>try exact ed.elim)
   ·subst ed
    refine Qf ?_
    have jv:=Vh c.gl { S with tb:=tb } T D pn hW ⟨x0,x1,x2,x3,x4⟩ hxm false
    unfold Mp.enc at jv
    dsimp only at jv
    refine EA (Bt (A:=[(73,_)]) (B:=[(75,_),(74,_),(75,_),(74,_),(73,_),(72,_),(71,_),(70,_)]) (S:=S) (S':={ S with tb:=tb }) (T:=T) rfl au au) ?_
    refine oT (v:=false) (ex:=(73,_)::[(75,_),(74,_),(75,_),(74,_),(73,_),(72,_),(71,_),(70,_)]) jv (Qj hT) (Qj hT) (by simp[Qe,uF]) aR au rfl ?_ ?_
    ·exact Qr @Xw
    refine Qf ?_
    refine Zg VD ?_
    refine Qf ?_
    refine HH (v:=false) (ex:=(73,_)::[(75,_),(74,_),(75,_),(74,_),(73,_),(72,_),(71,_),(70,_)]) eT (Qj hT) (Qj bj) (by simp[Qe,ai]) aR au au rfl ?_ ?_
    ·exact Qr @Xw
    unfold Zq
    refine Qf ?_
    exact hQ ⟨_,(73,_)::[(75,_),(74,_),(75,_),(74,_),(73,_),(72,_),(71,_),(70,_)],_,_,_,_,S1⟩ ⟨Bu.symm,sB.symm,rfl,rfl,rfl,rfl,rfl,Wk.refl _,by simp,Nat.le_of_ble_eq_true rfl,fun _=>rfl,fun _=>rfl,fun _=>rfl,fun _=>rfl⟩
   ·subst ed
    refine Qf ?_
    refine Zg VD ?_
    refine Qf ?_
    refine Xqa (Bt (A:=[(73,_)]) (B:=[(75,_),(74,_),(75,_),(74,_),(73,_),(72,_),(71,_),(70,_)]) (S:=S) (S':={ S with tb:=tb }) (T:=T) rfl au au) ?_
    refine HH (v:=false) (ex:=(73,_)::[(75,_),(74,_),(75,_),(74,_),(73,_),(72,_),(71,_),(70,_)]) eT (Qj hT) (Qj bj) (by simp[Qe,ai]) aR au au rfl ?_ ?_
    ·exact Qr @Xw
    unfold Zq
    refine Qf ?_
    exact hQ ⟨_,(73,_)::[(75,_),(74,_),(75,_),(74,_),(73,_),(72,_),(71,_),(70,_)],_,_,_,_,S1⟩ ⟨Bu.symm,sB.symm,rfl,rfl,rfl,rfl,rfl,Wk.nils,by simp,Nat.le_of_ble_eq_true rfl,fun _=>rfl,fun _=>rfl,fun _=>rfl,fun _=>rfl⟩
  ·rw[if_pos h6]at hx
   have N8:th=true:=by
    cases kp:th with
    | true=>rfl
    | false=>exact absurd (yU kp) h6
   obtain ⟨qE,gY⟩:=VC N8
   rw[qE]at hx
   obtain ⟨sB,Bu⟩:=Prod.mk.inj hx
   clear hx
   have hs:=hY _ _ _ Bu.symm
   have eT:=hs.goes (by rw[N7];exact h6)
   rw[N7]at eT
   generalize NS.goes S _ _ _=S1 at *
   unfold Pk.enc at eT
   dsimp only at eT
   refine Qh (An @k0 (An @k5 @qL)) ?_
   refine Ye7 (v:=false) (ex:=[(73,_),(73,_),(72,_),(72,_),(71,_),(70,_)]) eT (Qj hT) (Qj bj) (by simp[Qe,ai]) af au (by simp;omega) rfl ?_ ?_
   ·exact Qr @Xw
   unfold Zq
   refine Qf ?_
   exact hQ ⟨_,[(73,_),(73,_),(72,_),(72,_),(71,_),(70,_)],_,_,_,_,S1⟩ ⟨Bu.symm,sB.symm,k0,k3,k4,k5,k8,Wk.nils,by simp;omega,hn,fun _=>rfl,fun _=>rfl,fun _=>rfl,fun _=>rfl⟩
 obtain ⟨t,ex,N,n,m,es,S1⟩:=i
 obtain ⟨hy,kp,k0,k3,k4,k5,k8,HV,hex,VE,HX,N5,N6,HY⟩:=hi
 unfold OW.h at *
 have hs:=hY _ _ _ hy
 rw[wm,hp]at kp
 have mW:=Vd c.gl h0 S1 T1 hs.nj bj hs.told es hs.len hs.ca
 obtain ⟨N9,Oa⟩:=hs.a
 have aI:=hs.aN
 have VF:=hs.out
 obtain ⟨z1,z2,z3,z4,z5⟩:=m
 dsimp only at kp aI VF N9 Oa k0 k3 k4 k5 k8 HV hex VE HX N5 N6 HY ⊢
 obtain ⟨E,hE⟩:∃ E,Zn es=E:=⟨_,rfl⟩
 have oW:∀ n,ai n E:=fun n=>by rw[← hE];exact uF n _
 have Bv:∀ ρ,ay ρ E=E:=fun ρ=>by rw[← hE,Yf];exact (List.map_congr_left fun v hv=>Ks (Xj.1 (uF 0 es) v hv)).trans (List.map_id _)
 rw[hE]at mW HV
 obtain ⟨tE,Ez⟩:=Vw f 0 (Z3 + z4) z5
 have wj:=Sr c.gl f 0 (Z3 + z4) z5 hf
 rw[Ez]at wj
 clear Ez
 rw[VB]at aI kp
 generalize Yq f 0 (Z3 + z4) z5=tf at *
 generalize S1.log es=S2 at *
 generalize pZ S1.told es=L at *
 generalize es.length=le at *
 have HB:∀ {S:NS} {T:WT},T.wf→HL ([(73,.cells [.int .i64 z1,.int .i64 z2,.int .i64 z3,.int .i64 z4,.int .i64 z5]),(72,.cells [.int .i64 p1,.int .i64 p2,.int .i64 p3,.int .i64 p4,.int .i64 p5,.int .i64 p6,.int .i64 p7,.int .i64 p8,.int .i64 p9,.int .i64 fS,.int .i64 fT,.str pb]),(71,.cells [.int .i64 0,.str [],.bool false,.str []]),(70,.cells [.int .i64 ak,.int .i64 an,.int .i64 ad,.str f])]++Qm S T) 74:=fun hT=>(((Qj hT).more (by simp[bG,ai,Qe])).more (by simp[bG,ai,Qe])).more (by simp[bG,ai,Qe]) |>.more (by simp[bG,ai,Qe])
 refine Qh (An @k3 (An @HX (An @k8 @HY))) ?_
 refine nn aY (To.R6 11 (y:=.isl le E) HV) ?_
 refine nn (p:=[67]) (s':=⟨[(0,.ptr 67 0),(3,.ptr 70 0),(4,.ptr 71 0),(5,.ptr 72 0),(8,.ptr 73 0),(11,.isl le E),(141,.str f),(144,.int .i64 (Z3 + z4)),(146,.int .i64 z5)],[(73,.cells [.int .i64 z1,.int .i64 z2,.int .i64 z3,.int .i64 z4,.int .i64 z5]),(72,.cells [.int .i64 p1,.int .i64 p2,.int .i64 p3,.int .i64 p4,.int .i64 p5,.int .i64 p6,.int .i64 p7,.int .i64 p8,.int .i64 p9,.int .i64 fS,.int .i64 fT,.str pb]),(71,.cells [.int .i64 0,.str [],.bool false,.str []]),(70,.cells [.int .i64 ak,.int .i64 an,.int .i64 ad,.str f])]++Qm S1 T1,74⟩) aY ?_ ?_
 ·refine To.iq (ex:=ex) bj (HB bj) aR VE au hex au (fun b h1 h2=>?_) ?_
  ·rcases (by omega:b=70∨b=71∨b=72∨b=73) with rfl|rfl|rfl|rfl
   ·rw[HX];rfl
   ·rw[N5];rfl
   ·rw[N6];rfl
   ·rw[HY];rfl
  ·simp[Qu,Qe,ai,look,aD,ay,qb,lw,rL,oW,Bv,k0,k3,k4,k5,k8]
 refine Zg wj ?_
 refine Qf ?_
 refine Xzg (v:=false) (pp:=[67]) (ex:=[(73,_),(72,_),(71,_),(70,_)]) (s3:=⟨[(0,.ptr 67 0),(4,.ptr 71 0),(5,.ptr 72 0),(16,.str tf),(150,.str tf),(153,.str L)],[(73,.cells [.int .i64 z1,.int .i64 z2,.int .i64 z3,.int .i64 z4,.int .i64 z5]),(72,.cells [.int .i64 p1,.int .i64 p2,.int .i64 p3,.int .i64 p4,.int .i64 p5,.int .i64 p6,.int .i64 p7,.int .i64 p8,.int .i64 p9,.int .i64 fS,.int .i64 fT,.str pb]),(71,.cells [.int .i64 0,.str [],.bool false,.str []]),(70,.cells [.int .i64 ak,.int .i64 an,.int .i64 ad,.str f])]++Qm S2 T1,74⟩) aY mW (Qj bj) (Qj bj) (by simp[Qe]) aR au rfl ?_ ?_ ?_
 ·exact Qr (An @Xw @oW)
 ·refine To.yS (ex:=[(73,_),(72,_),(71,_),(70,_)]) (Qj bj) (HB bj) aR au au au (fun b h1 h2=>?_) ?_
  ·rcases (by omega:b=70∨b=71∨b=72∨b=73) with rfl|rfl|rfl|rfl<;>rfl
  ·simp[Qu,Qe,ai,look,aD,ay]
 have jb:=fun n b hb=>Ya (S:=S2) bj n b hb
 refine Qh @jb ?_
 (refine Qa (fun iH=>?_) (fun iH=>?_)<;>try exact iH.elim)
 ·rw[if_pos af]at kp
  subst kp
  have aI:=aI af
  generalize NS.aN S2 tf=w at *
  obtain ⟨⟨r1,r2,r3,r4⟩,S3⟩:=w
  unfold Rp.enc at aI
  dsimp only at aI ⊢
  refine Qf ?_
  refine Uu (v:=false) (pp:=[67]) (ex:=(74,_)::(74,_)::[(73,_),(72,_),(71,_),(70,_)]) (s3:=⟨[(4,.ptr 71 0),(18,.ptr 74 0),(167,.agg [.int .i64 r1,.str r2,.bool r3,.str r4])],(74,.cells [.int .i64 0,.str tf,.bool false,.str L])::[(73,.cells [.int .i64 z1,.int .i64 z2,.int .i64 z3,.int .i64 z4,.int .i64 z5]),(72,.cells [.int .i64 p1,.int .i64 p2,.int .i64 p3,.int .i64 p4,.int .i64 p5,.int .i64 p6,.int .i64 p7,.int .i64 p8,.int .i64 p9,.int .i64 fS,.int .i64 fT,.str pb]),(71,.cells [.int .i64 0,.str [],.bool false,.str []]),(70,.cells [.int .i64 ak,.int .i64 an,.int .i64 ad,.str f])]++Qm S3 T',75⟩) aY aI (Qj bj) (Qj eU) (by simp[Qe,ai]) aR au au rfl ?_ ?_ ?_
  ·exact Qr @Xw
  ·unfold Zq
   refine To.iq eU ((HB eU).more (by simp[bG,ai,Qe])) aR aR au au au (fun b h1 h2=>?_) ?_
   ·rcases (by omega:b=70∨b=71∨b=72∨b=73∨b=74) with rfl|rfl|rfl|rfl|rfl<;>rfl
   ·simp[Qu,Qe,ai,look,aD,ay,qb,lw,rL]
  have lP:=fun n b hb=>Ya (S:=S3) eU n b hb
  refine Qh @lP ?_
  unfold Rp.enc
  exact ⟨(),To.drop (ex:=[(71,_),(74,_),(74,_),(74,_),(75,_),(75,_),(74,_),(73,_),(72,_),(71,_),(70,_)]) (Qj eU) au au (by simp[Qu,Qe,ai,look,aD,ay])⟩
 ·rw[if_neg af]at kp
  subst kp
  obtain rfl:=VF af
  refine Qf ?_
  unfold Rp.enc
  exact ⟨(),To.drop (ex:=[(71,_),(74,_),(74,_),(73,_),(72,_),(71,_),(70,_)]) (Qj bj) au au (by simp[Qu,Qe,ai,look,aD,ay])⟩
theorem VG (gl:Nat→AV) (t x:Int):GS Tryz.prog gl 100 [.int .i64 t,.ptr 0 0] [(0,.cells [.int .i64 x])] 1 (.bool (t == x)) [(0,.cells [.int .i64 x])] 1:=by
 refine Xn9.gs (of_decide_eq_true rfl) (by simp[Bk.live]) fun c hN hg=>?_
 conv in aO _ _=>cbv
 refine Qf ?_
 refine ⟨[],?_⟩
 exact Qs
def qd (x:Int):List Int→Nat→Int
 | [],_=>-1
 | t::l,k=>if t=x then k else qd x l (k + 1)
theorem Ybb (gl:Nat→AV) (l:List Int) (hl:l.length≤1000000) (x:Int):GS Tryz.prog gl 136 [.sl 1 0 0 l.length l.length,.cl 100 [.ptr 1 0]]
  [(0,.cells (Qp l)),(1,.cells [.int .i64 x])] 2 (.int .i64 (qd x l 0)) [(0,.cells (Qp l)),(1,.cells [.int .i64 x])] 2:=by
 refine HM.gs (of_decide_eq_true rfl) (by simp[Bk.live]) fun c hN hg=>?_
 conv in aO _ _=>cbv
 have dD:=Ye l
 refine Qf ?_
 refine vd (fun k:Nat=>k≤l.length∧qd x (l.drop k) k=qd x l 0) (fun k=>⟨[(0,.sl 1 0 0 l.length l.length),(1,.cl 100 [.ptr 1 0]),(6,.sl 1 0 0 l.length l.length),(7,.int .i64 l.length),(8,.int .i64 k)],[(0,.cells (Qp l)),(1,.cells [.int .i64 x])],2⟩) (fun k=>l.length - k) HM.mixed 2 hN
  ⟨0,⟨by omega,rfl⟩,[],by exact Qs⟩ fun k hk=>?_
 obtain ⟨hk,cJ⟩:=hk
 refine Qf ?_
 (refine Qa (fun h1=>?_) (fun h1=>?_)<;>try exact h1.elim)
 ·have bB:k < l.length:=by omega
  have kn:=Bh l k bB
  have gU:l.drop k=l[k]::l.drop (k + 1):=List.drop_eq_getElem_cons bB
  rw[gU]at cJ
  rw[qd]at cJ
  generalize l[k]=t at *
  have hc:=VG c.gl t x
  refine Qh (An @dD @kn) ?_
  refine tO (ip [1]) hc (An @dD @kn) ?_
  (refine Qa (fun h2=>?_) (fun h2=>?_)<;>try exact h2.elim)
  ·rw[if_pos (by simpa using h2)]at cJ
   refine Qf ?_
   refine ⟨[],?_⟩
   exact Qr @cJ
  ·rw[if_neg (by simpa using h2)]at cJ
   refine Qf ?_
   refine ⟨k + 1,⟨by omega,cJ⟩,⟨[],?_⟩,by omega⟩
   exact Qs
 ·have:k=l.length:=by omega
  subst this
  rw[List.drop_length]at cJ
  have cJ:(-1:Int)=qd x l 0:=cJ
  refine Qf ?_
  refine ⟨[],?_⟩
  exact Qr @cJ
theorem VH {x:Int}:∀ (l:List Int) (k:Nat),qd x l k=-1→∀ t ∈ l,t≠x
 | [],_,_,t,ht=>by cases ht
 | a::l,k,h,t,ht=>by
  unfold qd at h
  split at h
  ·omega
  ·rcases List.mem_cons.1 ht with rfl|ht
   ·assumption
   ·exact VH l (k + 1) h t ht
theorem VI {x:Int}:∀ (l:List Int) (k:Nat),qd x l k≠-1→∃ i,i < l.length∧qd x l k=((k + i:Nat):Int)∧(∀ t ∈ l.take i,t≠x)∧∃ t,l[i]?=some t∧t=x
 | [],_,h=>absurd rfl h
 | a::l,k,h=>by
  unfold qd at h ⊢
  split at h
  ·rename_i e
   rw[if_pos e]
   exact ⟨0,by simp,by simp,by simp,a,rfl,e⟩
  ·rename_i e
   rw[if_neg e]
   obtain ⟨i,h1,h2,h3,t,h4,h5⟩:=VI l (k + 1) h
   refine ⟨i + 1,by simpa using h1,by rw[h2];omega,fun y hy=>?_,t,by simpa using h4,h5⟩
   rw[List.take_succ_cons]at hy
   rcases List.mem_cons.1 hy with rfl|hy
   ·exact e
   ·exact h3 y hy
theorem Xwl:Am Tryz.prog 52 1:=KS (by kernel_rfl)
def dS (x:Int) (l:List Int):List Int:=l.filter fun t=>!(t == x)
theorem Xfx (l:List Int) (k:Nat) (h:k≤l.length):(Qp l).take k=Qp (l.take k):=by simp[Qp]
theorem Yaj (gl:Nat→AV) (l:List Int) (hl:l.length≤1000000) (x:Int):GS Tryz.prog gl 99 [.sl 1 0 0 l.length l.length,.cl 100 [.ptr 1 0]]
  [(0,.cells (Qp l)),(1,.cells [.int .i64 x])] 2 (.sl 1 0 0 (dS x l).length l.length) [(0,.cells (Qp (dS x l))),(1,.cells [.int .i64 x])] 2:=by
 refine U7.gs (of_decide_eq_true rfl) (by simp[Bk.live]) fun c hN hg=>?_
 conv in aO _ _=>cbv
 have dD:=Ye l
 have hi:=Ybb c.gl l hl x
 refine Qf ?_
 ((first|refine Xa (ins:=[0,1]) hi ?_ ?_|refine Qw (ins:=[0,1]) hi ?_ ?_|refine Qx (ins:=[0,1]) hi ?_ ?_|refine Qt (ins:=[0,1]) hi ?_ ?_)<;>(have aB:=@dD;refine XG ?_;clear aB;(try first|exact rfl|exact True.intro);((try (repeat' with_reducible refine And.intro ?_ ?_));(try any_goals (first|refine zm ?_|exact CL|fail)))))
 ·decide
 by_cases b9:qd x l 0=-1
 ·have dY:dS x l=l:=List.filter_eq_self.2 fun t ht=>by simpa using VH l 0 b9 t ht
  rw[dY]
  (refine Qa (fun h1=>?_) (fun h1=>?_)<;>try exact h1.elim)
  ·refine Qf ?_
   refine ⟨[],?_⟩
   exact Qs
  ·exact absurd b9 (by simpa using h1)
 ·obtain ⟨i0,q1,q2,q3,t0,q4,q5⟩:=VI l 0 b9
  rw[Nat.zero_add]at q2
  rw[q2]
  (refine Qa (fun h1=>?_) (fun h1=>?_)<;>try exact h1.elim)
  ·omega
  refine Qf ?_
  refine vd (fun y:Nat × Nat × List Int=>y.1 < y.2.1∧y.2.1≤l.length∧y.2.2.length=l.length∧y.2.2.take y.1=dS x (l.take y.2.1)∧y.2.2.drop y.2.1=l.drop y.2.1)
   (fun y=>⟨[(0,.sl 1 0 0 l.length l.length),(1,.cl 100 [.ptr 1 0]),(5,.int .i64 y.1),(6,.int .i64 y.2.1)],[(0,.cells (Qp y.2.2)),(1,.cells [.int .i64 x])],2⟩) (fun y=>l.length - y.2.1) U7.mixed 2 hN
   ⟨(i0,i0 + 1,l),⟨by simp,by show i0 + 1≤l.length;omega,rfl,?_,rfl⟩,[],by exact Qs⟩ fun y hy=>?_
  ·have:l.take (i0 + 1)=l.take i0++[t0]:=by rw[List.take_succ,q4];rfl
   show l.take i0=dS x (l.take (i0 + 1))
   rw[this]
   unfold dS
   rw[List.filter_append,List.filter_eq_self.2 fun t ht=>by simpa using q3 t ht]
   simp[q5]
  obtain ⟨i,j,M⟩:=y
  obtain ⟨iJ,my,hM,bY,mT⟩:=hy
  dsimp only at iJ my hM bY mT ⊢
  have uz:=Ye M
  refine Qf ?_
  (refine Qa (fun h2=>?_) (fun h2=>?_)<;>try exact h2.elim)
  ·have mI:j < l.length:=by omega
   have D6:j < M.length:=by omega
   have bg:=Bh M j D6
   have M8:M[j]=l[j]:=by
    have e1:(M.drop j)[0]?=M[j]?:=by simp
    have e2:(l.drop j)[0]?=l[j]?:=by simp
    rw[mT,e2]at e1
    simpa [mI,D6] using e1.symm
   have eW:dS x (l.take (j + 1))=if M[j]=x then dS x (l.take j) else dS x (l.take j)++[M[j]]:=by
    have:l.take (j + 1)=l.take j++[M[j]]:=by rw[List.take_succ,M8];simp[mI]
    rw[this]
    unfold dS
    rw[List.filter_append]
    split<;>simp_all
   have gU:M.drop (j + 1)=l.drop (j + 1):=by
    have:=congrArg (List.drop 1) mT
    simpa [List.drop_drop,Nat.add_comm] using this
   have bu:(Qp M).set i (.int .i64 M[j])=Qp (M.set i M[j]):=by simp[Qp,List.map_set]
   have gW:((M.set i M[j]).take (i + 1))=M.take i++[M[j]]:=by
    rw[List.take_succ,List.take_set_of_le (Nat.le_refl i)]
    simp[show i < M.length by omega]
   have yo:(M.set i M[j]).drop (j + 1)=M.drop (j + 1):=by rw[List.drop_set_of_lt af]
   have jD:(M.set i M[j]).length=l.length:=by simp[hM]
   have htS:=Ye (M.set i M[j])
   generalize M[j]=t at *
   have hc:=VG c.gl t x
   refine Qh (An @uz @bg) ?_
   refine tO (ip [1]) hc (An @uz @bg) ?_
   (refine Qa (fun h3=>?_) (fun h3=>?_)<;>try exact h3.elim)
   ·rw[if_neg h3]at eW
    refine Qh (An @uz @bu) ?_
    refine ⟨(i + 1,j + 1,M.set i t),⟨by dsimp only;omega,by dsimp only;omega,jD,by rw[gW,bY,eW],by rw[yo,gU]⟩,⟨[],?_⟩,by dsimp only;omega⟩
    exact Qs
   ·rw[if_pos (by simpa using h3)]at eW
    refine Qh @uz ?_
    refine ⟨(i,j + 1,M),⟨by dsimp only;omega,by dsimp only;omega,hM,by rw[bY,eW],gU⟩,⟨[],?_⟩,by dsimp only;omega⟩
    exact Qs
  ·obtain rfl:j=l.length:=by omega
   rw[List.take_length]at bY
   have fq:(dS x l).length=i:=by rw[← bY,List.length_take];omega
   have il:=Xfx M i af
   rw[bY]at il
   refine Qf ?_
   (refine Gn Xwl ?_;(have aB:=@il;refine XG ?_;clear aB;((try (repeat' with_reducible refine And.intro ?_ ?_));(try any_goals (first|refine zm ?_|exact CL|fail)))))
   refine Qf ?_
   refine ⟨[],?_⟩
   exact Qr @fq
end Go.Proofs.YtogckmommodmhaaGreatDoor
