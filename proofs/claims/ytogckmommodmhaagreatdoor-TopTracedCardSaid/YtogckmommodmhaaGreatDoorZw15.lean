import Derived.Test.YtogckmommodmhaaGreatDoorZw14
import Derived.Test.YtogckmommodmhaaGreatDoorZw9
import Derived.Test.YtogckmommodmhaaGreatDoorZw12
namespace Go.Proofs.YtogckmommodmhaaGreatDoor
open Go.RowKit
set_option linter.all false
set_option linter.unusedSimpArgs false
set_option maxRecDepth 100000
theorem VJ (f:List UInt8) (side addr port:Int):∃ e,qI f side addr port=.aU [.str (Yz f side addr port),.int .i64 e]:=by
 unfold qI Yz
 split
 ·exact ⟨_,rfl⟩
 ·split
  ·exact ⟨_,rfl⟩
  ·exact ⟨_,rfl⟩
theorem To.lJ {p:List Nat} {t t':List (Nat × AV)} {ex ex':List (Nat × Bk)} {S:NS} {T:WT} {N n k:Nat} (hT:T.wf) (H':HL (ex'++Qk S T) k) (hk:70≤k) (hkN:k≤N) (km:∀ q ∈ ex',70≤q.1) (hex:∀ q ∈ ex,70≤q.1∧q.1 < N) (hp:∀ b ∈ p,b=67)
  (hl:∀ b,70≤b→b < k→Qc (ex++Qs (bU id [67] N) (Qk S T)) n b=Qx (lw (bU id [67] N) 70) (Qc (ex'++Qk S T) k b)) (ht:Qu (lw (bU id [67] N) 70) k t t'):To p ⟨t,ex++Qs (bU id [67] N) (Qk S T),n⟩ ⟨t',ex'++Qk S T,k⟩:=by
 have hs:∀ b,b < 70→bU id [67] N b=67∧b=67∨bU id [67] N b=N + b∧b≠67:=fun b hb=>by
  by_cases e:b=67
  ·subst e;exact .inl ⟨Kq au,rfl⟩
  ·exact .inr ⟨Jy (by simpa using e),e⟩
 refine To.mid (Qi hT) H' hk km (fun b b' hb bH e=>?_) (fun q hq b hb e=>?_) (fun b hb b' h1 h2 e=>?_) (fun b hb=>?_) hl ht
 ·rcases hs b hb with ⟨h1,h2⟩|⟨h1,h2⟩<;>rcases hs b' bH with ⟨h3,h4⟩|⟨h3,h4⟩<;>omega
 ·have:=hex q hq
  rcases hs b hb with ⟨h1,h2⟩|⟨h1,h2⟩<;>omega
 ·rcases hs b hb with ⟨h3,h4⟩|⟨h3,h4⟩<;>omega
 ·obtain rfl:=hp b hb
  exact ⟨rfl,by omega⟩
theorem To.yG {p:List Nat} {t t':List (Nat × AV)} {h ex ex':List (Nat × Bk)} {m n k:Nat} (H:HL h m) (H':HL (ex'++h) k) (Ta:m≤k) (km:∀ q ∈ ex',m≤q.1) (hex:∀ q ∈ ex,m≤q.1) (hp:∀ b ∈ p,b < k) (hl:∀ b,m≤b→b < k→Qc (ex++h) n b=Qc (ex'++h) k b) (ht:Qu id k t t'):To p ⟨t,ex++h,n⟩ ⟨t',ex'++h,k⟩:=by
 refine To.lX id H' (fun b hb=>⟨rfl,hp b hb⟩) (fun b b' _ _ e=>e) (fun b hb=>?_) ht
 rw[Kb]
 show Qc (ex++h) n b=_
 by_cases h1:b < m
 ·rw[Qw fun q hq e=>by have:=hex q hq;omega,Qw fun q hq e=>by have:=km q hq;omega,H.lo h1 n,H.lo h1 k]
 ·exact hl b ae hb
def bK (S:NS) (m:Mp) (r:Int) (x:Int):Bool:=S.fl.any fun q=>q.1 == x && (decide (q.2.map=m) && q.2.rem == r)
theorem NR {S:NS} (hd:S.fl.Pairwise fun p q=>p.1≠q.1) {q:Int × Fl} (hq:q ∈ S.fl) (m:Mp) (r:Int):bK S m r q.1=(decide (q.2.map=m) && q.2.rem == r):=by
 unfold bK
 rw[Bool.eq_iff_iff,List.any_eq_true]
 constructor
 ·rintro ⟨x,hx,h⟩
  rw[Bool.and_eq_true,beq_iff_eq]at h
  rw[← Ef hd hx hq h.1];exact h.2
 ·intro h
  exact ⟨q,hq,by rw[h];simp⟩
theorem Yct {S:NS} (hd:S.fl.Pairwise fun p q=>p.1≠q.1) (m:Mp) (r:Int):S.keys.any (bK S m r)=S.fl.any fun q=>decide (q.2.map=m) && q.2.rem == r:=by
 unfold NS.keys
 rw[List.any_map,Bool.eq_iff_iff,List.any_eq_true,List.any_eq_true]
 constructor<;>rintro ⟨q,hq,h⟩
 ·exact ⟨q,hq,by rw[← NR hd hq];exact h⟩
 ·exact ⟨q,hq,by show bK S m r q.1=true;rw[NR hd hq];exact h⟩
theorem wB (N:Nat):lw (bU id [67] N) 70 67=67:=rfl
theorem Ej {S:NS} {T:WT} (hT:T.wf):HL ((70,Bk.cells [.ptr 67 0])::Qk S T) 71:=(Qi hT).more (by simp[bP,ah,Qf])
theorem HH (S:NS) (f:List UInt8):S.aR f =
  if bZ f≠0 then (bT (bZ f),S) else
  if (az f).dst - 3405803777 < 0∨3≤(az f).dst - 3405803777 then (bT 7,S) else
  if (az f).af=1∧(az f).flags≠0 then (bT 4,S) else
  if (az f).av=1 then (bT 12,S) else
  match S.tb.maps.find? (Wa (az f).af ((az f).dst - 3405803777) (az f).aj) with
  | none=>(bT 7,S)
  | some m =>
   if S.findF m (az f).aB (az f).ai≠0 then (⟨0,Yz f 1 (167772161 + m.s) m.aR,true,[]⟩,S.goes (S.findF m (az f).aB (az f).ai) (az f) true) else
   if S.loose=false∧(S.fl.any fun q=>decide (q.2.map=m) && q.2.rem == (az f).aB)=false then (bT 11,S) else
   if (az f).af≠17∨48≤S.fl.length then (bT 11,S) else
   (⟨0,Yz f 1 (167772161 + m.s) m.aR,true,[]⟩,S.begin ⟨m,(az f).aB,(az f).ai,2,0,0⟩):=rfl
theorem Ek {S:NS} {m:Mp} {r rp:Int} (h:S.findF m r rp≠0):∃ q ∈ S.fl,S.findF m r rp=q.1∧q.2.map=m∧q.2.rem=r∧q.2.rport=rp:=by
 unfold NS.findF at h ⊢
 split
 ·rename_i q hq
  have h1:=List.find?_some hq
  simp only[Bool.and_eq_true,decide_eq_true_eq,beq_iff_eq]at h1
  exact ⟨q,List.mem_of_find?_eq_some hq,rfl,h1.1.1,h1.1.2,h1.2⟩
 ·rename_i hq
  rw[hq]at h
  exact absurd rfl h
theorem VK (f:List UInt8):∃ (p:Pk) (e:Int),Up f=.aU [.agg p.enc,.int .i64 e]∧(e=0→bZ f=0∧az f=p∧(p.af=1∨p.af=6∨p.af=17)∧Kk p)∧(e≠0→bZ f=e):=by
 by_cases he:bZ f=0
 ·exact ⟨az f,0,by unfold Up;rw[if_pos he],fun _=>⟨he,rfl,VF he⟩,fun h=>(h rfl).elim⟩
 ·exact ⟨eF,bZ f,by unfold Up;rw[if_neg he],fun h=>(he h).elim,fun _=>rfl⟩
set_option maxHeartbeats 16000000 in
theorem Yf2 (gl:Nat→AV) (S:NS) (T T1:WT) (hS:NI S) (hT:T.wf) (bI:T1.wf) (f:List UInt8) (hf:f.length≤140737488351232) (x:Rp × NS) (hx:S.aR f=x) (ha:x.1.code≠0→T1=T)
  (hb:x.1.code=0→∀ m,S.tb.maps.find? (Wa (az f).af ((az f).dst - 3405803777) (az f).aj)=some m →
   (∀ q ∈ S.fl,S.findF m (az f).aB (az f).ai=q.1→GD Tryz.prog gl 93 [.ptr 67 0,.int .i64 q.1,.agg (az f).enc,.bool true] (Qk S T) 70 [67] (.aU []) (Qk (S.goes q.1 (az f) true) T1)) ∧
   (S.findF m (az f).aB (az f).ai=0→GD Tryz.prog gl 91 [.ptr 67 0,.agg (Fl.enc ⟨m,(az f).aB,(az f).ai,2,0,0⟩)] (Qk S T) 70 [67] (.aU []) (Qk (S.begin ⟨m,(az f).aB,(az f).ai,2,0,0⟩) T1))) :
  GD Tryz.prog gl 59 [.ptr 67 0,.str f] (Qk S T) 70 [67] (.agg x.1.enc) (Qk x.2 T1):=by
 refine Ycl.gq (of_decide_eq_true rfl) (Zu hT) au fun c aY hg=>?_
 subst hg
 conv in aQ _ _=>cbv
 have aM:=fun n b hb=>Yl (S:=S) hT n b hb
 have bE:=Kj S T
 have aW:=NS.aP hS.wf
 have eQ:=NS.ef hS.wf
 have iH:=NS.iH hS.wf
 have uP:=NS.uP hS.wf
 have NT:=hS.len
 have hP:=xH c.gl f hf
 obtain ⟨Z1,pW,sa⟩:∃ Z:Int,(3405803776:Int)=Z∧0≤Z∧Z≤4294967296:=⟨_,rfl,by decide,by decide⟩
 obtain ⟨Z2,sT,NU⟩:∃ Z:Int,(167772161:Int)=Z∧0≤Z∧Z≤4294967296:=⟨_,rfl,by decide,by decide⟩
 rw[pW,sT]
 obtain ⟨p,e,lT,yH,CV⟩:=VK f
 rw[lT]at hP
 rw[HH]at hx
 obtain ⟨p1,p2,p3,p4,p5,p6,p7,p8,p9,fT,fU,pb⟩:=p
 unfold Pk.enc at hP
 dsimp only at hP
 refine Qh @aM ?_
 ((first|apply Ym|apply Ya|apply Xn|apply Xj)<;>(first|exact hP|(refine XG ?_;first|exact rfl|exact True.intro|((try (repeat' with_reducible refine And.intro ?_ ?_));(try any_goals (first|refine zm ?_|exact CL|fail))))))
 exact Qq @aM
 (refine Qa (fun h1=>?_) (fun h1=>?_)<;>try exact h1.elim)
 ·have he:=CV h1
  subst he
  rw[if_pos h1]at hx
  subst hx
  obtain rfl:=ha (by first|exact h1|simp[bT])
  unfold bT Rp.enc
  refine Qh @aM ?_
  exact ⟨(),To.drop (ex:=[(71,_),(72,_),(72,_),(71,_),(70,_)]) (Qi hT) au au (by simp[Qu,Qf,ah,look,aD,ay])⟩
 obtain ⟨he,hp,Dg,yI⟩:=yH h1
 rw[if_neg (by rw[he];simp)]at hx
 rw[hp]at hx hb
 unfold Kk at yI
 dsimp only at hx hb Dg yI
 refine Qe ?_
 (refine Qa (fun h2=>?_) (fun h2=>?_)<;>try exact h2.elim)
 ·rw[if_pos ae]at hx
  subst hx
  obtain rfl:=ha (by first|exact h1|simp[bT])
  unfold bT Rp.enc
  refine Qh @aM ?_
  exact ⟨(),To.drop (ex:=[(71,_),(72,_),(72,_),(71,_),(70,_)]) (Qi hT) au au (by simp[Qu,Qf,ah,look,aD,ay])⟩
 rw[if_neg ae]at hx
 refine Qe ?_
 (refine Qa (fun h3=>?_) (fun h3=>?_)<;>try exact h3.elim)
 ·rw[if_pos ae]at hx
  subst hx
  obtain rfl:=ha (by first|exact h1|simp[bT])
  unfold bT Rp.enc
  refine Qh @aM ?_
  exact ⟨(),To.drop (ex:=[(71,_),(72,_),(72,_),(71,_),(70,_)]) (Qi hT) au au (by simp[Qu,Qf,ah,look,aD,ay])⟩
 rw[if_neg ae]at hx
 refine Qe ?_
 (refine Qa (fun h4=>?_) (fun h4=>?_)<;>try exact h4.elim)
 ·rw[if_pos ae]at hx
  subst hx
  obtain rfl:=ha (by first|exact h1|simp[bT])
  unfold bT Rp.enc
  refine Qh @aM ?_
  exact ⟨(),To.drop (ex:=[(71,_),(72,_),(72,_),(71,_),(70,_)]) (Qi hT) au au (by simp[Qu,Qf,ah,look,aD,ay])⟩
 rw[if_neg ae]at hx
 have pM:=SZ c.gl S.tb hS.wf (by have:=vV (Uu.2 hS.gt);omega) p1 (p4 - Z1 - 1) p5
 rw[show p4 - 3405803777=p4 - Z1 - 1 by omega]at hx hb
 refine Qh (An @bE (An @aW @eQ)) ?_
 cases hm:S.tb.maps.find? (Wa p1 (p4 - Z1 - 1) p5) with
 | none =>
  rw[hm]at pM hx
  unfold mN at pM
  dsimp only at pM hx
  rw[show fI.enc=[.int .i64 0,.int .i64 0,.int .i64 0,.int .i64 0,.int .i64 0] from rfl]at pM
  refine Qv pM @aM ?_
  (refine Qa (fun h5=>?_) (fun h5=>?_)<;>try exact h5.elim)
  subst hx
  obtain rfl:=ha (by first|exact h1|simp[bT])
  unfold bT Rp.enc
  refine Qh @aM ?_
  exact ⟨(),To.drop (ex:=[(71,_),(73,_),(73,_),(72,_),(72,_),(71,_),(70,_)]) (Qi hT) au au (by simp[Qu,Qf,ah,look,aD,ay])⟩
 | some m =>
  rw[hm]at pM hx
  unfold mN at pM
  dsimp only at pM hx
  have hb:=fun h=>hb h m hm
  have kF:=Vk c.gl S T hS.toNJ hT m p2 p3
  obtain ⟨tE,El⟩:=VJ f 1 (Z2 + m.s) m.aR
  have wC:=Sx c.gl f 1 (Z2 + m.s) m.aR hf
  rw[El]at wC
  obtain ⟨_,⟨NV,NW⟩,_⟩:=Kx (hS.gt.maps m (List.mem_of_find?_eq_some hm)).1.1
  clear El
  rw[sT]at hx
  generalize Yz f 1 (Z2 + m.s) m.aR=tf at *
  have VL:=@Ek S m p2 p3
  obtain ⟨mp,ms,mi,ma,mt⟩:=m
  generalize hkF:S.findF ⟨mp,ms,mi,ma,mt⟩ p2 p3=k at *
  unfold Mp.enc at pM kF
  dsimp only at pM kF hx hb wC NV NW
  have HI:∀ {S:NS} {T:WT},T.wf→HL ([(73,.cells [.int .i64 mp,.int .i64 ms,.int .i64 mi,.int .i64 ma,.int .i64 mt]),(72,.cells [.int .i64 p1,.int .i64 p2,.int .i64 p3,.int .i64 p4,.int .i64 p5,.int .i64 p6,.int .i64 p7,.int .i64 p8,.int .i64 p9,.int .i64 fT,.int .i64 fU,.str pb]),(71,.cells [.int .i64 0,.str [],.bool false,.str []]),(70,.cells [.ptr 67 0])]++Qk S T) 74:=fun hT=>((Ej hT).more (by simp[bP,ah,Qf])).more (by simp[bP,ah,Qf]) |>.more (by simp[bP,ah,Qf])
  refine Qv pM @aM ?_
  (refine Qa (fun h5=>?_) (fun h5=>?_)<;>try exact h5.elim)
  refine Qh @aM ?_
  refine ru (v:=false) (ex:=[(73,_),(73,_),(72,_),(72,_),(71,_),(70,_)]) kF (Qi hT) (Qi hT) (by simp[Qf]) aI au rfl ?_ ?_
  ·exact Qq (An @Xz @aM)
  refine Qe ?_
  (refine Qa (fun h6=>?_) (fun h6=>?_)<;>try exact h6.elim)
  ·rw[if_pos h6]at hx
   subst hx
   obtain ⟨q,hq,e,_⟩:=VL h6
   have eW:=(hb rfl).1 q hq e
   subst e
   generalize NS.goes S _ _ true=S1 at *
   unfold Pk.enc at eW
   dsimp only at eW
   refine Qe ?_
   refine sQ (v:=false) (pp:=[67]) (ex:=[(73,_),(73,_),(72,_),(72,_),(71,_),(70,_)]) (s3:=⟨[(1,.str f),(4,.ptr 71 0),(8,.ptr 73 0)],[(73,.cells [.int .i64 mp,.int .i64 ms,.int .i64 mi,.int .i64 ma,.int .i64 mt]),(72,.cells [.int .i64 p1,.int .i64 p2,.int .i64 p3,.int .i64 p4,.int .i64 p5,.int .i64 p6,.int .i64 p7,.int .i64 p8,.int .i64 p9,.int .i64 fT,.int .i64 fU,.str pb]),(71,.cells [.int .i64 0,.str [],.bool false,.str []]),(70,.cells [.ptr 67 0])]++Qk S1 T1,74⟩) aY eW (Qi hT) (Qi bI) (by simp[Qf,ah]) aI au au rfl ?_ ?_ ?_
   ·exact Qq @Xz
   ·unfold Zr
    refine To.lJ bI (HI bI) aI aI au au au (fun b h1 h2=>?_) ?_
    ·rcases (by omega:b=70∨b=71∨b=72∨b=73) with rfl|rfl|rfl|rfl<;>rfl
    ·simp[Qu,Qf,ah,look,aD,ay,wB,lw]
   refine Qe ?_
   refine Zq wC ?_
   refine Qe ?_
   unfold Rp.enc
   exact ⟨(),To.drop (ex:=[(71,_),(73,_),(72,_),(71,_),(70,_)]) (Qi bI) au au (by simp[Qu,Qf,ah,look,aD,ay])⟩
  rw[if_neg ae]at hx
  cases fw:S.loose with
  | false =>
   rw[fw]at uP hx
   refine Qh (An @bE (An @aW (An @uP @iH))) ?_
   ((refine vC ?_ ?_ ?_);(focus (have aJ:=@bE;have bm:=@aW;have bL:=@uP;refine XG ?_;clear aJ bm bL;try first|exact rfl|exact True.intro));(focus (have aJ:=@bE;have bm:=@aW;have bL:=@uP;refine XG ?_;clear aJ bm bL;try trivial)))
   have H4:=HI (S:=S) hT
   refine qA (p:=[67]) (s':=⟨[(1,.str f),(2,.ptr 70 0),(4,.ptr 71 0),(5,.ptr 72 0),(8,.ptr 73 0),(90,.bool true),(94,.dx true (.sl 1 69 0 S.fl.length S.fl.length)),(95,.dx true (.cl 97 [.ptr 70 0,.ptr 73 0,.ptr 72 0]))],[(73,.cells [.int .i64 mp,.int .i64 ms,.int .i64 mi,.int .i64 ma,.int .i64 mt]),(72,.cells [.int .i64 p1,.int .i64 p2,.int .i64 p3,.int .i64 p4,.int .i64 p5,.int .i64 p6,.int .i64 p7,.int .i64 p8,.int .i64 p9,.int .i64 fT,.int .i64 fU,.str pb]),(71,.cells [.int .i64 0,.str [],.bool false,.str []]),(70,.cells [.ptr 67 0])]++Qk S T,74⟩) aY ?_ ?_
   ·refine To.yG (ex:=[(73,_),(73,_),(72,_),(72,_),(71,_),(70,_)]) (Qi hT) H4 aI au au au (fun b h1 h2=>?_) ?_
    ·rcases (by omega:b=70∨b=71∨b=72∨b=73) with rfl|rfl|rfl|rfl<;>rfl
    ·simp[Qu,Qf,ah,look,aD,ay]
   have rI:=VC c.gl (l:=S.keys) (kb:=69) (f:=97) (caps:=[.ptr 70 0,.ptr 73 0,.ptr 72 0]) (b:=bK S ⟨mp,ms,mi,ma,mt⟩ p2) H4 (by simp[NS.keys];omega) aI (fun n=>rfl) (by simp[ah,Qf]) (fun x hx=>by
    obtain ⟨q,hq,rfl⟩:=List.mem_map.1 hx
    rw[NR hS.dJ hq]
    exact Yay c.gl (p:=⟨p1,p2,p3,p4,p5,p6,p7,p8,p9,fT,fU,pb⟩) hS.toNJ H4 (fun n=>rfl) (fun n=>rfl) (fun n=>rfl) (fun n=>rfl) (fun n=>rfl) hq)
   rw[Yct hS.dJ,show S.keys.length=S.fl.length by simp[NS.keys]]at rI
   refine ru (v:=false) (ex:=[]) rI H4 H4 (by simp[Qf]) aI au rfl ?_ ?_
   ·exact Qq @Xz
   generalize (S.fl.any fun q=>decide (q.2.map=⟨mp,ms,mi,ma,mt⟩) && q.2.rem == p2)=any at *
   refine Qe ?_
   (refine Qa (fun h7=>?_) (fun h7=>?_)<;>try exact h7.elim)
   ·subst h7
    rw[if_pos ⟨rfl,rfl⟩]at hx
    subst hx
    obtain rfl:=ha (by first|exact h1|simp[bT])
    unfold bT Rp.enc
    refine Qh @aM ?_
    exact ⟨(),To.drop (ex:=[(71,_),(73,_),(72,_),(71,_),(70,_)]) (Qi hT) au au (by simp[Qu,Qf,ah,look,aD,ay])⟩
   rw[if_neg (by simpa using h7)]at hx
   refine Qh (An @bE (An @aW @iH)) ?_
   (refine Qa (fun h8=>?_) (fun h8=>?_)<;>try exact h8.elim)
   ·rw[if_pos ae]at hx
    subst hx
    obtain rfl:=ha (by first|exact h1|simp[bT])
    unfold bT Rp.enc
    refine Qh @aM ?_
    exact ⟨(),To.drop (ex:=[(71,_),(73,_),(72,_),(71,_),(70,_)]) (Qi hT) au au (by simp[Qu,Qf,ah,look,aD,ay])⟩
   ·rw[if_neg ae]at hx
    subst hx
    have eW:=(hb rfl).2 ae
    generalize NS.begin S _=S1 at *
    unfold Fl.enc Wo at eW
    dsimp only at eW
    refine Qh (An @bE (An @aW @iH)) ?_
    refine sQ (v:=false) (pp:=[67]) (ex:=[(73,_),(72,_),(71,_),(70,_)]) (s3:=⟨[(1,.str f),(4,.ptr 71 0),(8,.ptr 73 0)],[(73,.cells [.int .i64 mp,.int .i64 ms,.int .i64 mi,.int .i64 ma,.int .i64 mt]),(72,.cells [.int .i64 p1,.int .i64 p2,.int .i64 p3,.int .i64 p4,.int .i64 p5,.int .i64 p6,.int .i64 p7,.int .i64 p8,.int .i64 p9,.int .i64 fT,.int .i64 fU,.str pb]),(71,.cells [.int .i64 0,.str [],.bool false,.str []]),(70,.cells [.ptr 67 0])]++Qk S1 T1,74⟩) aY eW (Qi hT) (Qi bI) (by simp[Qf,ah]) aI au au rfl ?_ ?_ ?_
    ·exact Qq @Xz
    ·unfold Zr
     refine To.lJ bI (HI bI) aI aI au au au (fun b h1 h2=>?_) ?_
     ·rcases (by omega:b=70∨b=71∨b=72∨b=73) with rfl|rfl|rfl|rfl<;>rfl
     ·simp[Qu,Qf,ah,look,aD,ay,wB,lw]
    refine Qe ?_
    refine Zq wC ?_
    refine Qe ?_
    unfold Rp.enc
    exact ⟨(),To.drop (ex:=[(71,_),(73,_),(72,_),(71,_),(70,_)]) (Qi bI) au au (by simp[Qu,Qf,ah,look,aD,ay])⟩
  | true =>
   rw[fw]at uP hx
   rw[if_neg au]at hx
   refine Qh (An @bE (An @aW @uP)) ?_
   ((first|apply Yd|apply Xr)<;>(have aJ:=@bE;have bm:=@aW;have bL:=@uP;refine XG ?_;clear aJ bm bL;first|exact rfl|exact True.intro|((try (repeat' with_reducible refine And.intro ?_ ?_));(try any_goals (first|refine zm ?_|exact CL|fail)))))
   refine Qe ?_
   (refine Qa (fun h7=>?_) (fun h7=>?_)<;>try exact h7.elim)
   refine Qh (An @bE (An @aW @iH)) ?_
   (refine Qa (fun h8=>?_) (fun h8=>?_)<;>try exact h8.elim)
   ·rw[if_pos ae]at hx
    subst hx
    obtain rfl:=ha (by first|exact h1|simp[bT])
    unfold bT Rp.enc
    refine Qh @aM ?_
    exact ⟨(),To.drop (ex:=[(71,_),(73,_),(73,_),(72,_),(72,_),(71,_),(70,_)]) (Qi hT) au au (by simp[Qu,Qf,ah,look,aD,ay])⟩
   ·rw[if_neg ae]at hx
    subst hx
    have eW:=(hb rfl).2 ae
    generalize NS.begin S _=S1 at *
    unfold Fl.enc Wo at eW
    dsimp only at eW
    refine Qh (An @bE (An @aW @iH)) ?_
    refine sQ (v:=false) (pp:=[67]) (ex:=[(73,_),(73,_),(72,_),(72,_),(71,_),(70,_)]) (s3:=⟨[(1,.str f),(4,.ptr 71 0),(8,.ptr 73 0)],[(73,.cells [.int .i64 mp,.int .i64 ms,.int .i64 mi,.int .i64 ma,.int .i64 mt]),(72,.cells [.int .i64 p1,.int .i64 p2,.int .i64 p3,.int .i64 p4,.int .i64 p5,.int .i64 p6,.int .i64 p7,.int .i64 p8,.int .i64 p9,.int .i64 fT,.int .i64 fU,.str pb]),(71,.cells [.int .i64 0,.str [],.bool false,.str []]),(70,.cells [.ptr 67 0])]++Qk S1 T1,74⟩) aY eW (Qi hT) (Qi bI) (by simp[Qf,ah]) aI au au rfl ?_ ?_ ?_
    ·exact Qq @Xz
    ·unfold Zr
     refine To.lJ bI (HI bI) aI aI au au au (fun b h1 h2=>?_) ?_
     ·rcases (by omega:b=70∨b=71∨b=72∨b=73) with rfl|rfl|rfl|rfl<;>rfl
     ·simp[Qu,Qf,ah,look,aD,ay,wB,lw]
    refine Qe ?_
    refine Zq wC ?_
    refine Qe ?_
    unfold Rp.enc
    exact ⟨(),To.drop (ex:=[(71,_),(73,_),(72,_),(71,_),(70,_)]) (Qi bI) au au (by simp[Qu,Qf,ah,look,aD,ay])⟩
def VM (gl:Nat→AV) (S:NS) (T:WT) (f:List UInt8) (x:Rp × NS):Prop:=∃ T' D',WI T' x.2.now D'∧D'.Perm x.2.a8∧(x.1.code≠0→T'=T)∧(x.1.code=0→∀ m,S.tb.maps.find? (Wa (az f).af ((az f).dst - 3405803777) (az f).aj)=some m →
   (∀ q ∈ S.fl,S.findF m (az f).aB (az f).ai=q.1→GD Tryz.prog gl 93 [.ptr 67 0,.int .i64 q.1,.agg (az f).enc,.bool true] (Qk S T) 70 [67] (.aU []) (Qk (S.goes q.1 (az f) true) T')) ∧
   (S.findF m (az f).aB (az f).ai=0→GD Tryz.prog gl 91 [.ptr 67 0,.agg (Fl.enc ⟨m,(az f).aB,(az f).ai,2,0,0⟩)] (Qk S T) 70 [67] (.aU []) (Qk (S.begin ⟨m,(az f).aB,(az f).ai,2,0,0⟩) T')))
theorem VN (gl:Nat→AV) (S:NS) (T:WT) (D:List Tm) (hS:NI S) (wy:S.b7≤1000000) (hW:WI T S.now D) (hD:D.Perm S.a8) (f:List UInt8) (hf:f.length≤140737488351232):∃ T' D',WI T' (S.aR f).2.now D'∧D'.Perm (S.aR f).2.a8 ∧
  GD Tryz.prog gl 59 [.ptr 67 0,.str f] (Qk S T) 70 [67] (.agg (S.aR f).1.enc) (Qk (S.aR f).2 T'):=by
 have key:∀ x,S.aR f=x→VM gl S T f x:=by
  intro x hx
  have stay:∀ r:Rp,r.code≠0→x=(r,S)→VM gl S T f x:=fun r hr e=>by
   subst e
   exact ⟨T,D,hW,hD,fun _=>rfl,fun h=>(hr h).elim⟩
  rw[HH]at hx
  split at hx
  ·rename_i h;exact stay _ h hx.symm
  split at hx
  ·exact stay (bT 7) aI hx.symm
  split at hx
  ·exact stay (bT 4) aI hx.symm
  split at hx
  ·exact stay (bT 12) aI hx.symm
  split at hx
  ·exact stay (bT 7) aI hx.symm
  rename_i m hm
  split at hx
  ·rename_i hk
   obtain ⟨q,hq,e,_⟩:=Ek hk
   obtain ⟨T1,D1,dH,kp,hg⟩:=Vz gl S T D hS hW hD q hq (az f) true
   subst hx
   rw[e]
   refine ⟨T1,D1,dH,kp,fun h=>(h rfl).elim,fun _ m' xX=>?_⟩
   obtain rfl:=Option.some.inj (hm.symm.trans xX)
   exact ⟨fun q' cD e'=>by rw[show q'.1=q.1 from e'.symm.trans e];exact hg,fun e'=>(hk e').elim⟩
  rename_i hk
  split at hx
  ·exact stay (bT 11) aI hx.symm
  split at hx
  ·exact stay (bT 11) aI hx.symm
  rename_i h8
  obtain ⟨T1,D1,dH,kp,hg⟩:=Vv gl S T D hS.toNJ.nb wy hW hD ae m (az f).aB (az f).ai 2
  subst hx
  refine ⟨T1,D1,dH,kp,fun h=>(h rfl).elim,fun _ m' xX=>?_⟩
  obtain rfl:=Option.some.inj (hm.symm.trans xX)
  exact ⟨fun q' cD e'=>absurd (by rw[e'];have:=(hS.ids q' cD).1;omega) hk,fun _=>hg⟩
 obtain ⟨T',D',h1,h2,h3,h4⟩:=key _ rfl
 exact ⟨T',D',h1,h2,Yf2 gl S T T' hS hW.wf h1.wf f hf _ rfl h3 h4⟩
theorem Xux (gl:Nat→AV) (p:Int) (r:List AV):PS Tryz.prog gl 92 [.agg (.int .i64 p::r)] (.int .i64 (if p=6 then 1 else 2)):=by
 refine Xwp.ps (of_decide_eq_true rfl) (by simp[Qf]) fun c hN hg=>?_
 conv in aQ _ _=>cbv
 refine Qe ?_
 (repeat' (first|((refine Qa (fun hh=>?_) (fun hh=>?_)<;>try exact hh.elim)<;>exact Qr) ))
 all_goals simp_all
theorem Xpx (gl:Nat→AV) (p:Pk):PS Tryz.prog gl 87 [.agg p.enc] (.bool (A8 p.af p.flags)):=by
 refine Xqn.ps (of_decide_eq_true rfl) (by simp[Qf]) fun c hN hg=>?_
 conv in aQ _ _=>cbv
 obtain ⟨p1,p2,p3,p4,p5,p6,p7,p8,p9,fT,fU,pb⟩:=p
 unfold Pk.enc A8
 dsimp only
 refine Qe ?_
 (refine Qa (fun h1=>?_) (fun h1=>?_)<;>try exact h1.elim)
 ·subst h1
  exact Qr
 refine Qe ?_
 (refine Qa (fun h2=>?_) (fun h2=>?_)<;>try exact h2.elim)
 ·subst h2
  exact Qr
 refine Qe ?_
 by_cases h3:p1=17
 ·subst h3;rfl
 ·rw[if_neg h3,if_neg h1]
  simp[h2,h3]
section
variable {P:Program} {c:Cx}
theorem Em {o:bG} {r0:List bG} {K:St→Prop} {s s2:St} (e:s.fs=s2.fs) (h:Xw P c o r0 K s2):Xw P c o r0 K s:=by
 unfold Xw IX Fy at h ⊢
 rw[e];exact h
theorem Xoz {anc:List Nat} {o:bG} {r0:List bG} {fs:List bp} {K:St→Prop} {s s2:St} (e:s.fs=s2.fs) (h:Zi P c anc o r0 fs K s2):Zi P c anc o r0 fs K s:=by
 unfold Zi IY at h ⊢
 rw[e];exact h
end
theorem Bg {A B:List (Nat × Bk)} {S S':NS} {T:WT} {n:Nat} {t:List (Nat × AV)} (iz:S'.fl=S.fl) (hA:∀ q ∈ A,q.1≠67) (hB:∀ q ∈ B,q.1≠67):(⟨t,A++((67,.cells S'.cells)::(B++Qk S T)),n⟩:St).fs=(⟨t,(A++B)++Qk S' T,n⟩:St).fs:=by
 refine pD (fun _=>rfl) fun b=>?_
 show Qc _ n b=Qc _ n b
 by_cases h:b=67
 ·subst h
  rw[Qw hA,Qd,if_pos rfl,List.append_assoc,Qw hA,Qw hB]
  rfl
 ·have e1:Qc ((67,Bk.cells S'.cells)::(B++Qk S T)) n b=Qc (B++Qk S' T) n b:=by
   rw[Qd,if_neg fun e=>h e.symm]
   refine CR ?_
   unfold Qk NS.keys
   rw[iz]
   show Qc ((67,_)::_) n b=Qc ((67,_)::_) n b
   rw[Qd,if_neg fun e=>h e.symm]
   conv=>rhs;rw[Qd,if_neg fun e=>h e.symm]
  rw[List.append_assoc]
  exact CR e1
section
variable {P:Program} {c:Cx} {h h1 ex:List (Nat × Bk)} {m n:Nat} {v:Bool} {d:Option Nat} {kk:PK} {f:FuncId} {xs:List TV} {args:List AV} {r:AV} {t:List (Nat × AV)} {r0:List bG} {K:St→Prop}
theorem Ybk {pp:List Nat} {s3:St} (aY:∀ q ∈ c.gh,q.1 ∈ pp) (hq:GD P c.gl f args h m (List.range m) r h1) (H:HL h m) (H1:HL h1 m) (hr:Qf m r) (hn:m≤n) (hex:∀ q ∈ ex,m≤q.1∧q.1 < n) (hk:kk=(bif v then .cY else .call f))
  (hc:Qt none (aF c.gl (⟨t,ex++h,n⟩:St).fs xs)∧mG v f ((aF c.gl (⟨t,ex++h,n⟩:St).fs xs).map Qj)=some (f,args)∧ah m args) (gC:To pp (St.bD ⟨t,ex++h1,n + m⟩ d r) s3) (hx:XP P c r0 K s3):Xw P c (.pd d kk xs none) r0 K ⟨t,ex++h,n⟩ :=
 sQ aY hq H H1 hr hn (fun b hb=>List.mem_range.1 hb) hex hk hc (by rw[Hs H1 hr];exact gC) hx
end
theorem NS.En {S:NS} (h:S.tb.wf) {tb:Tb} (hw:tb.wf):Yp S.cells 0 tb.enc=({ S with tb:=tb }:NS).cells:=by
 unfold Yp NS.cells
 rw[List.take_zero,List.nil_append,Nat.zero_add,Tb.aA hw,← Tb.aA h,List.drop_left]
 rfl
theorem Xle (f:List UInt8) (af av:Int) (a w:Nat) (addr port:Int):(Yc f af av a w addr port).length=f.length:=by
 have dq:∀ b pr m n,(tl b pr m n).length=b.length:=fun b pr m n=>by unfold tl;split<;>simp[Js]
 unfold Yc
 dsimp only
 split<;>simp only[LD,Qy,dq]
theorem HJ (f:List UInt8) (side addr port:Int):(Yz f side addr port).length≤f.length:=by
 unfold Yz
 split
 ·simp
 ·split
  ·simp
  ·rw[Xle];exact Nat.le_refl _
theorem Bh (N:Nat):bU id [67] N 67=67:=rfl
section
variable {P:Program} {c:Cx} {h h1 ex:List (Nat × Bk)} {m n:Nat} {v:Bool} {d:Option Nat} {kk:PK} {f:FuncId} {xs:List TV} {args:List AV} {r:AV} {t:List (Nat × AV)} {r0:List bG} {K:St→Prop}
theorem VO {ι:Type} (J:ι→Prop) (st:ι→St) {A:TC} {Q:EX→St→Prop} {s:St} (h2:∀ i,J i→Q .normal (st i)) (h1:∀ Q':EX→St→Prop,(∀ i,J i→Q' .normal (st i))→(∀ s,Q .ret s→Q' .ret s)→xw P c A Q' s):xw P c A Q s:=h1 Q h2 fun _ h=>h
theorem Yc5 {p:List Nat} (hq:GD P c.gl f args h m p r h1) (H:HL h m) (H1:HL h1 m) (hr:Qf m r) (hn:m≤n) (hp:∀ b ∈ p,b < m) (hex:∀ q ∈ ex,m≤q.1∧q.1 < n) (hk:kk=(bif v then .cY else .call f))
  (hc:Qt none (aF c.gl (⟨t,ex++h,n⟩:St).fs xs)∧mG v f ((aF c.gl (⟨t,ex++h,n⟩:St).fs xs).map Qj)=some (f,args)∧ah m args) (hx:XP P c r0 K (Zr t ex h1 id p m n d r)):Xw P c (.pd d kk xs none) r0 K ⟨t,ex++h,n⟩:=by
 have:=Lk (d:=d) (r0:=r0) (K:=K) hq (Ba (v:=v) H hn hp hex hc) hk H1 hr hx
 rw[Jw]at this;exact this
end
theorem Eo (S:NS) (f:List UInt8) (m:Mp) (es:List Ev):S.dP f m es =
  if 0≤(az f).dst - 3405803777∧(az f).dst - 3405803777 < 3 then
   (⟨((S.log es).aR (Yz f 0 (3405803777 + m.a) m.port)).1.code,((S.log es).aR (Yz f 0 (3405803777 + m.a) m.port)).1.frame,((S.log es).aR (Yz f 0 (3405803777 + m.a) m.port)).1.inner,jJ S.told es⟩,((S.log es).aR (Yz f 0 (3405803777 + m.a) m.port)).2)
  else (⟨0,Yz f 0 (3405803777 + m.a) m.port,false,jJ S.told es⟩,S.log es):=rfl
noncomputable def NS.mV (S:NS) (f:List UInt8) (draw:Int):(Rp × NS) × Option (Mp × List Ev × NS) :=
 if bZ f≠0 then ((bT (bZ f),S),none) else
 if (az f).aB - 167772161 < 0∨8≤(az f).aB - 167772161 then ((bT 7,S),none) else
 if (az f).af=1∧(az f).flags≠8 then ((bT 4,S),none) else
 if (az f).av=1 then ((bT 12,S),none) else
 if S.cQ (az f)≠0 then (match S.fwd (az f) with
  | some m=>((S.goes (S.cQ (az f)) (az f) false).dP f m [],some (m,[],S.goes (S.cQ (az f)) (az f) false))
  | none=>((bT 0,S),none))
 else if A8 (az f).af (az f).flags=false then ((bT 11,S),none) else
 if 48≤S.fl.length then (S.refuse f 6,none) else
 if (S.tb.cE (az f).af ((az f).aB - 167772161) (az f).ai draw).2.2.2≠0 then (S.refuse f (S.tb.cE (az f).af ((az f).aB - 167772161) (az f).ai draw).2.2.2,none) else
 (S.opened f (S.tb.cE (az f).af ((az f).aB - 167772161) (az f).ai draw),some ((S.tb.cE (az f).af ((az f).aB - 167772161) (az f).ai draw).2.1,
  (if (S.tb.cE (az f).af ((az f).aB - 167772161) (az f).ai draw).2.2.1 then [({ S with tb:=(S.tb.cE (az f).af ((az f).aB - 167772161) (az f).ai draw).1 }:NS).ev (S.tb.cE (az f).af ((az f).aB - 167772161) (az f).ai draw).2.1 false] else []),
  ({ S with tb:=(S.tb.cE (az f).af ((az f).aB - 167772161) (az f).ai draw).1 }:NS).begin ⟨(S.tb.cE (az f).af ((az f).aB - 167772161) (az f).ai draw).2.1,(az f).dst,(az f).aj,pU (az f).af,0,0⟩))
theorem Ye9 (S:NS) (f:List UInt8) (d:Int):(S.mV f d).1=S.out f d:=by
 rw[Eh]
 unfold NS.mV
 (repeat' split)<;>first|rfl|(simp_all;done)
structure uV (gl:Nat→AV) (S:NS) (T T1 T':WT) (f:List UInt8) (p:Pk) (x:Tb) (m:Mp) (es:List Ev) (S1:NS):Prop where
 nj:NJ S1
 told:S1.told≤100000
 len:es.length≤64
 bQ:∀ e ∈ es,Zk e.t e.s e.a e.b=true∧e.t=(es.headD ⟨0,0,0,0,false⟩).t
 a:0≤m.a∧m.a < 3
 goes:S.cQ p≠0→GD Tryz.prog gl 93 [.ptr 67 0,.int .i64 (S.cQ p),.agg p.enc,.bool false] (Qk S T) 70 [67] (.aU []) (Qk S1 T1)
 beg:S.cQ p=0→Dp m∧GD Tryz.prog gl 91 [.ptr 67 0,.agg (Fl.enc ⟨m,p.dst,p.aj,pU p.af,0,0⟩)] (Qk { S with tb:=x } T) 70 [67] (.aU []) (Qk S1 T1)
 aR:0≤p.dst - 3405803777∧p.dst - 3405803777 < 3→GD Tryz.prog gl 59 [.ptr 67 0,.str (Yz f 0 (3405803777 + m.a) m.port)] (Qk (S1.log es) T1) 70 [67] (.agg ((S1.log es).aR (Yz f 0 (3405803777 + m.a) m.port)).1.enc) (Qk ((S1.log es).aR (Yz f 0 (3405803777 + m.a) m.port)).2 T')
 out:¬ (0≤p.dst - 3405803777∧p.dst - 3405803777 < 3)→T'=T1
structure OW where
 t:List (Nat × AV)
 ex:List (Nat × Bk)
 N:Nat
 n:Nat
 m:Mp
 es:List Ev
 S1:NS
def OW.h (T1:WT) (i:OW):List (Nat × Bk):=i.ex++Qs (bU id [67] i.N) (Qk i.S1 T1)
structure OJ (T1:WT) (f:List UInt8) (pc ac:List AV) (x:Rp × NS) (y:Option (Mp × List Ev × NS)) (i:OW):Prop where
 y:y=some (i.m,i.es,i.S1)
 x:x=i.S1.dP f i.m i.es
 k0:look i.t 0=.ptr 67 0
 k3:look i.t 3=.ptr 70 0
 k4:look i.t 4=.ptr 71 0
 k5:look i.t 5=.ptr 72 0
 k8:look i.t 8=.ptr 73 0
 HM:Wk (look i.t 11) (.isl i.es.length (Yh i.es))
 ex:∀ q ∈ i.ex,70≤q.1∧q.1 < i.N
 N:74≤i.N
 HO:∀ n,Qc (i.h T1) n 70=.cells ac
 NY:∀ n,Qc (i.h T1) n 71=.cells [.int .i64 0,.str [],.bool false,.str []]
 NZ:∀ n,Qc (i.h T1) n 72=.cells pc
 HP:∀ n,Qc (i.h T1) n 73=.cells [.int .i64 i.m.af,.int .i64 i.m.s,.int .i64 i.m.aR,.int .i64 i.m.a,.int .i64 i.m.port]
set_option maxHeartbeats 32000000 in
theorem Yd5 (gl:Nat→AV) (h0:gl 0=.xp (Qo Xs) 0) (S:NS) (T T1 T':WT) (D:List Tm) (hS:NI S) (hW:WI T S.now D) (bI:T1.wf) (eX:T'.wf) (ak an ad:Int) (f:List UInt8) (hf:f.length≤140737488351232) (x:Rp × NS) (y:Option (Mp × List Ev × NS)) (hx:S.mV f ad=(x,y)) (hN:y=none→T'=T)
  (hY:∀ m es S1,y=some (m,es,S1)→uV gl S T T1 T' f (az f) (S.tb.cE (az f).af ((az f).aB - 167772161) (az f).ai ad).1 m es S1) :
  GD Tryz.prog gl 58 [.ptr 67 0,.agg [.int .i64 ak,.int .i64 an,.int .i64 ad,.str f]] (Qk S T) 70 [67] (.agg x.1.enc) (Qk x.2 T'):=by
 have hT:=hW.wf
 refine Xz0.gq (of_decide_eq_true rfl) (Zu hT) au fun c aY hg=>?_
 subst hg
 conv in aQ _ _=>cbv
 have aM:=fun n b hb=>Yl (S:=S) hT n b hb
 have bE:=Kj S T
 have aW:=NS.aP hS.wf
 have eQ:=NS.ef hS.wf
 have iH:=NS.iH hS.wf
 have NT:=hS.len
 have hP:=xH c.gl f hf
 obtain ⟨Z1,pW,sa⟩:∃ Z:Int,(3405803776:Int)=Z∧0≤Z∧Z≤4294967296:=⟨_,rfl,by decide,by decide⟩
 obtain ⟨Z2,sT,NU⟩:∃ Z:Int,(167772160:Int)=Z∧0≤Z∧Z≤4294967296:=⟨_,rfl,by decide,by decide⟩
 obtain ⟨Z3,VP,hz3⟩:∃ Z:Int,(3405803777:Int)=Z∧0≤Z∧Z≤4294967296:=⟨_,rfl,by decide,by decide⟩
 rw[pW,sT,VP]
 obtain ⟨p,e,lT,yH,CV⟩:=VK f
 rw[lT]at hP
 unfold NS.mV at hx
 obtain ⟨p1,p2,p3,p4,p5,p6,p7,p8,p9,fT,fU,pb⟩:=p
 unfold Pk.enc at hP
 dsimp only at hP
 refine Qh @aM ?_
 ((first|apply Ym|apply Ya|apply Xn|apply Xj)<;>(first|exact hP|(refine XG ?_;first|exact rfl|exact True.intro|((try (repeat' with_reducible refine And.intro ?_ ?_));(try any_goals (first|refine zm ?_|exact CL|fail))))))
 exact Qq @aM
 (refine Qa (fun h1=>?_) (fun h1=>?_)<;>try exact h1.elim)
 ·have he:=CV h1
  subst he
  rw[if_pos h1]at hx
  obtain ⟨rfl,rfl⟩:=Prod.mk.inj hx
  obtain rfl:=hN rfl
  unfold bT Rp.enc at *
  refine Qh @aM ?_
  exact ⟨(),To.drop (ex:=[(71,_),(72,_),(72,_),(71,_),(70,_)]) (Qi hT) au au (by simp[Qu,Qf,ah,look,aD,ay])⟩
 obtain ⟨he,hp,Dg,yI⟩:=yH h1
 rw[if_neg (by rw[he];simp),hp]at hx
 rw[hp]at hY
 unfold Kk at yI
 dsimp only at hx hY Dg yI
 refine Qe ?_
 (refine Qa (fun h2=>?_) (fun h2=>?_)<;>try exact h2.elim)
 ·rw[if_pos ae]at hx
  obtain ⟨rfl,rfl⟩:=Prod.mk.inj hx
  obtain rfl:=hN rfl
  unfold bT Rp.enc at *
  refine Qh @aM ?_
  exact ⟨(),To.drop (ex:=[(71,_),(72,_),(72,_),(71,_),(70,_)]) (Qi hT) au au (by simp[Qu,Qf,ah,look,aD,ay])⟩
 rw[if_neg ae]at hx
 refine Qe ?_
 (refine Qa (fun h3=>?_) (fun h3=>?_)<;>try exact h3.elim)
 ·rw[if_pos ae]at hx
  obtain ⟨rfl,rfl⟩:=Prod.mk.inj hx
  obtain rfl:=hN rfl
  unfold bT Rp.enc at *
  refine Qh @aM ?_
  exact ⟨(),To.drop (ex:=[(71,_),(72,_),(72,_),(71,_),(70,_)]) (Qi hT) au au (by simp[Qu,Qf,ah,look,aD,ay])⟩
 rw[if_neg ae]at hx
 refine Qe ?_
 (refine Qa (fun h4=>?_) (fun h4=>?_)<;>try exact h4.elim)
 ·rw[if_pos ae]at hx
  obtain ⟨rfl,rfl⟩:=Prod.mk.inj hx
  obtain rfl:=hN rfl
  unfold bT Rp.enc at *
  refine Qh @aM ?_
  exact ⟨(),To.drop (ex:=[(71,_),(72,_),(72,_),(71,_),(70,_)]) (Qi hT) au au (by simp[Qu,Qf,ah,look,aD,ay])⟩
 rw[if_neg ae]at hx
 have kQ:=SY c.gl S.tb hS.wf (by have:=vV (Uu.2 hS.gt);omega) p1 (p2 - Z2 - 1) p3
 rw[show p2 - 167772161=p2 - Z2 - 1 by omega]at hx hY
 refine Qh (An @bE (An @aW @eQ)) ?_
 obtain ⟨m,th,DV,VQ,Bi⟩:∃ m th,mN (S.tb.maps.find? (Zd p1 (p2 - Z2 - 1) p3))=.aU [.agg (Mp.enc m),.bool th]∧(th=true→S.fwd ⟨p1,p2,p3,p4,p5,p6,p7,p8,p9,fT,fU,pb⟩=some m∧S.cQ ⟨p1,p2,p3,p4,p5,p6,p7,p8,p9,fT,fU,pb⟩=S.findF m p4 p5)∧(th=false→S.cQ ⟨p1,p2,p3,p4,p5,p6,p7,p8,p9,fT,fU,pb⟩=0):=by
  have e1:S.fwd ⟨p1,p2,p3,p4,p5,p6,p7,p8,p9,fT,fU,pb⟩=S.tb.maps.find? (Zd p1 (p2 - Z2 - 1) p3):=by
   rw[show p2 - Z2 - 1=p2 - 167772161 by omega];rfl
  unfold NS.cQ
  rw[e1]
  cases S.tb.maps.find? (Zd p1 (p2 - Z2 - 1) p3) with
  | none=>exact ⟨fI,false,rfl,by simp,fun _=>rfl⟩
  | some m=>exact ⟨m,true,rfl,fun _=>⟨rfl,rfl⟩,by simp⟩
 rw[DV]at kQ
 clear DV
 have kF:=Vk c.gl S T hS.toNJ hT m p4 p5
 have VL:=fun h=>@Ek S m p4 p5 h
 generalize N0:S.cQ ⟨p1,p2,p3,p4,p5,p6,p7,p8,p9,fT,fU,pb⟩=k at *
 obtain ⟨m1,m2,m3,m4,m5⟩:=m
 unfold Mp.enc at kQ kF
 dsimp only at kQ kF
 refine Qv kQ @aM ?_
 refine VO (fun y:List (Nat × AV) × Nat=>look y.1 0=.ptr 67 0∧look y.1 3=.ptr 70 0∧look y.1 4=.ptr 71 0∧look y.1 5=.ptr 72 0∧look y.1 7=.int .i64 (p2 - Z2 - 1)∧look y.1 8=.ptr 73 0∧look y.1 10=.int .i64 k∧74≤y.2)
  (fun y=>⟨y.1,[(73,.cells [.int .i64 m1,.int .i64 m2,.int .i64 m3,.int .i64 m4,.int .i64 m5]),(73,.cells [.int .i64 0,.int .i64 0,.int .i64 0,.int .i64 0,.int .i64 0]),(72,.cells [.int .i64 p1,.int .i64 p2,.int .i64 p3,.int .i64 p4,.int .i64 p5,.int .i64 p6,.int .i64 p7,.int .i64 p8,.int .i64 p9,.int .i64 fT,.int .i64 fU,.str pb]),(72,.cells [.int .i64 0,.int .i64 0,.int .i64 0,.int .i64 0,.int .i64 0,.int .i64 0,.int .i64 0,.int .i64 0,.int .i64 0,.int .i64 0,.int .i64 0,.str []]),(71,.cells [.int .i64 0,.str [],.bool false,.str []]),(70,.cells [.int .i64 ak,.int .i64 an,.int .i64 ad,.str f])]++Qk S T,y.2⟩) (fun y hy=>?_) fun Q' hQ hR=>?_
 rotate_left
 ·(refine Qa (fun h5=>?_) (fun h5=>?_)<;>try exact h5.elim)
  ·obtain ⟨xq,jx⟩:=VQ h5
   subst jx
   refine Qh @aM ?_
   refine ru (v:=false) (ex:=[(73,_),(73,_),(72,_),(72,_),(71,_),(70,_)]) kF (Qi hT) (Qi hT) (by simp[Qf]) aI au rfl ?_ ?_
   ·exact Qq (An @Xz @aM)
   refine Qe ?_
   exact hQ (_,_) ⟨rfl,rfl,rfl,rfl,rfl,rfl,rfl,Nat.le_of_ble_eq_true rfl⟩
  ·obtain rfl:=Bi h5
   refine Qe ?_
   exact hQ (_,_) ⟨rfl,rfl,rfl,rfl,rfl,rfl,rfl,Nat.le_of_ble_eq_true rfl⟩
 obtain ⟨t,n⟩:=y
 obtain ⟨k0,k3,k4,k5,k7,k8,qH,hn⟩:=hy
 dsimp only at k0 k3 k4 k5 k7 k8 qH hn ⊢
 refine Qh @qH ?_
 refine VO (OJ T1 f [.int .i64 p1,.int .i64 p2,.int .i64 p3,.int .i64 p4,.int .i64 p5,.int .i64 p6,.int .i64 p7,.int .i64 p8,.int .i64 p9,.int .i64 fT,.int .i64 fU,.str pb] [.int .i64 ak,.int .i64 an,.int .i64 ad,.str f] x y) (fun i=>⟨i.t,i.h T1,i.n⟩) (fun i hi=>?_) fun Q' hQ hR=>?_
 rotate_left
 ·(refine Qa (fun h6=>?_) (fun h6=>?_)<;>try exact h6.elim)
  ·subst h6
   rw[if_neg au]at hx
   have H4:∀ {m:List AV},bP 74 (.cells m)→∀ {S:NS} {T:WT},T.wf→HL ([(73,.cells m),(72,.cells [.int .i64 p1,.int .i64 p2,.int .i64 p3,.int .i64 p4,.int .i64 p5,.int .i64 p6,.int .i64 p7,.int .i64 p8,.int .i64 p9,.int .i64 fT,.int .i64 fU,.str pb]),(71,.cells [.int .i64 0,.str [],.bool false,.str []]),(70,.cells [.int .i64 ak,.int .i64 an,.int .i64 ad,.str f])]++Qk S T) 74:=fun hm _ _ hT=>(((Qi hT).more (by simp[bP,ah,Qf])).more (by simp[bP,ah,Qf])).more (by simp[bP,ah,Qf]) |>.more hm
   refine Qh (An @aM @k5) ?_
   refine qA (p:=[67]) (s':=⟨[(0,.ptr 67 0),(3,.ptr 70 0),(4,.ptr 71 0),(5,.ptr 72 0),(7,.int .i64 (p2 - Z2 - 1)),(8,.ptr 73 0),(10,.int .i64 0),(11,.nils),(78,.agg [.int .i64 p1,.int .i64 p2,.int .i64 p3,.int .i64 p4,.int .i64 p5,.int .i64 p6,.int .i64 p7,.int .i64 p8,.int .i64 p9,.int .i64 fT,.int .i64 fU,.str pb])],[(73,.cells [.int .i64 m1,.int .i64 m2,.int .i64 m3,.int .i64 m4,.int .i64 m5]),(72,.cells [.int .i64 p1,.int .i64 p2,.int .i64 p3,.int .i64 p4,.int .i64 p5,.int .i64 p6,.int .i64 p7,.int .i64 p8,.int .i64 p9,.int .i64 fT,.int .i64 fU,.str pb]),(71,.cells [.int .i64 0,.str [],.bool false,.str []]),(70,.cells [.int .i64 ak,.int .i64 an,.int .i64 ad,.str f])]++Qk S T,74⟩) aY ?_ ?_
   ·refine To.yG (ex:=[(73,_),(73,_),(72,_),(72,_),(71,_),(70,_)]) (Qi hT) (H4 (by simp[bP,ah,Qf]) hT) aI au au au (fun b h1 h2=>?_) ?_
    ·rcases (by omega:b=70∨b=71∨b=72∨b=73) with rfl|rfl|rfl|rfl<;>rfl
    ·simp[Qu,Qf,ah,look,aD,ay,k0,k3,k4,k5,k7,k8,qH]
   have hB:=Xpx c.gl ⟨p1,p2,p3,p4,p5,p6,p7,p8,p9,fT,fU,pb⟩
   unfold Pk.enc at hB
   dsimp only at hB
   refine Zq hB ?_
   (refine Qa (fun h7=>?_) (fun h7=>?_)<;>try exact h7.elim)
   ·rw[if_pos h7]at hx
    obtain ⟨rfl,rfl⟩:=Prod.mk.inj hx
    obtain rfl:=hN rfl
    unfold bT Rp.enc at *
    refine Qh @aM ?_
    refine hR _ ?_
    refine Qe ?_
    exact ⟨(),To.drop (ex:=[(71,_),(73,_),(72,_),(71,_),(70,_)]) (Qi hT) au au (by simp[Qu,Qf,ah,look,aD,ay])⟩
   rw[if_neg (by rw[h7];simp)]at hx
   refine Qh (An @aM (An @bE (An @aW @iH))) ?_
   (refine Qa (fun h8=>?_) (fun h8=>?_)<;>try exact h8.elim)
   ·rw[if_pos ae]at hx
    obtain ⟨rfl,rfl⟩:=Prod.mk.inj hx
    obtain rfl:=hN rfl
    have Bj:=Vn c.gl S T' hS.toNJ hT f hf 6
    generalize S.refuse f 6=rr at *
    obtain ⟨⟨r1,r2,r3,r4⟩,S1⟩:=rr
    unfold Rp.enc at *
    dsimp only at *
    refine Qe ?_
    refine ru (v:=false) (ex:=[(73,_),(72,_),(71,_),(70,_)]) Bj (Qi hT) (Qi hT) (by simp[Qf,ah]) aI au rfl ?_ ?_
    ·exact Qq @Xz
    refine Qe ?_
    refine hR _ ?_
    refine Qe ?_
    exact ⟨(),To.drop (ex:=(71,_)::[(73,_),(72,_),(71,_),(70,_)]) (Qi hT) au au (by simp[Qu,Qf,ah,look,aD,ay])⟩
   rw[if_neg ae]at hx
   have hO:=Xvn c.gl S.tb hS.ok p1 (p2 - Z2 - 1) p3 ad
   have nW:(S.tb.cE p1 (p2 - Z2 - 1) p3 ad).1.wf:=by
    obtain ⟨S0,mU⟩:∃ S0:Nat,p2 - Z2 - 1=S0:=⟨(p2 - Z2 - 1).toNat,by omega⟩
    rw[mU]
    exact (opened hS.gt hS.wf (VD (p:=⟨p1,p2,p3,p4,p5,p6,p7,p8,p9,fT,fU,pb⟩) Dg ae ae yI.2.2.2.2.1.1 yI.2.2.2.2.1.2) ad).wf hS.wf
   have VS:S.opened f (S.tb.cE p1 (p2 - Z2 - 1) p3 ad)=(({ S with tb:=(S.tb.cE p1 (p2 - Z2 - 1) p3 ad).1 }:NS).begin ⟨(S.tb.cE p1 (p2 - Z2 - 1) p3 ad).2.1,p4,p5,pU p1,0,0⟩).dP f (S.tb.cE p1 (p2 - Z2 - 1) p3 ad).2.1 (if (S.tb.cE p1 (p2 - Z2 - 1) p3 ad).2.2.1 then [({ S with tb:=(S.tb.cE p1 (p2 - Z2 - 1) p3 ad).1 }:NS).ev (S.tb.cE p1 (p2 - Z2 - 1) p3 ad).2.1 false] else []):=by
    unfold NS.opened
    rw[hp]
   generalize S.tb.cE p1 (p2 - Z2 - 1) p3 ad=oo at *
   obtain ⟨tb,⟨x0,x1,x2,x3,x4⟩,tk,oe⟩:=oo
   unfold mP Jn Mp.enc at hO
   dsimp only at hO hx hY nW VS
   have aH:=Tb.aA nW
   have KH:=Tb.b8 tb
   have tt:tb.enc.take 30=tb.enc:=List.take_of_length_le (by rw[aH];decide)
   refine Qh (An @aM (An @bE (An @aW @eQ))) ?_
   refine Qv hO (An @aM @aH) ?_
   refine Qh (An @aM @aH) ?_
   (refine Qa (fun h9=>?_) (fun h9=>?_)<;>try exact h9.elim)
   ·rw[if_pos h9]at hx
    obtain ⟨rfl,rfl⟩:=Prod.mk.inj hx
    obtain rfl:=hN rfl
    have Bj:=Vn c.gl S T' hS.toNJ hT f hf oe
    generalize S.refuse f oe=rr at *
    obtain ⟨⟨r1,r2,r3,r4⟩,S1⟩:=rr
    unfold Rp.enc at *
    dsimp only at *
    refine Qe ?_
    refine ru (v:=false) (ex:=[(75,_),(74,_),(75,_),(74,_),(73,_),(72,_),(71,_),(70,_)]) Bj (Qi hT) (Qi hT) (by simp[Qf,ah]) aI au rfl ?_ ?_
    ·exact Qq @Xz
    refine Qe ?_
    refine hR _ ?_
    refine Qe ?_
    exact ⟨(),To.drop (ex:=(71,_)::[(75,_),(74,_),(75,_),(74,_),(73,_),(72,_),(71,_),(70,_)]) (Qi hT) au au (by simp[Qu,Qf,ah,look,aD,ay])⟩
   obtain rfl:=h9
   rw[if_neg au,VS]at hx
   obtain ⟨sq,Bl⟩:=Prod.mk.inj hx
   clear hx
   have hs:=hY _ _ _ Bl.symm
   obtain ⟨hxm,eW⟩:=hs.beg N0
   have ep:=NS.En hS.wf nW
   have pn:NB ({ S with tb:=tb }:NS):=hS.toNJ.nb.rz nW
   have VT:=Xux c.gl p1 [.int .i64 p2,.int .i64 p3,.int .i64 p4,.int .i64 p5,.int .i64 p6,.int .i64 p7,.int .i64 p8,.int .i64 p9,.int .i64 fT,.int .i64 fU,.str pb]
   generalize NS.begin _ _=S1 at *
   unfold pU Fl.enc Wo at eW
   dsimp only at eW
   generalize (if p1=6 then (1:Int) else 2)=fi at *
   refine Qh (An @bE (An @aW (An @aH (An @tt @ep)))) ?_
   (refine Qa (fun fC=>?_) (fun fC=>?_)<;>try exact fC.elim)
   ·subst fC
    refine Qe ?_
    have fa:=Vs c.gl { S with tb:=tb } T D pn hW ⟨x0,x1,x2,x3,x4⟩ hxm false
    unfold Mp.enc at fa
    dsimp only at fa
    refine Em (Bg (A:=[(73,_)]) (B:=[(75,_),(74,_),(75,_),(74,_),(73,_),(72,_),(71,_),(70,_)]) (S:=S) (S':={ S with tb:=tb }) (T:=T) rfl au au) ?_
    refine ru (v:=false) (ex:=(73,_)::[(75,_),(74,_),(75,_),(74,_),(73,_),(72,_),(71,_),(70,_)]) fa (Qi hT) (Qi hT) (by simp[Qf,Ul]) aI au rfl ?_ ?_
    ·exact Qq @Xz
    refine Qe ?_
    refine Zq VT ?_
    refine Qe ?_
    refine Ht (v:=false) (ex:=(73,_)::[(75,_),(74,_),(75,_),(74,_),(73,_),(72,_),(71,_),(70,_)]) eW (Qi hT) (Qi bI) (by simp[Qf,ah]) aI au au rfl ?_ ?_
    ·exact Qq @Xz
    unfold Zr
    refine Qe ?_
    exact hQ ⟨_,(73,_)::[(75,_),(74,_),(75,_),(74,_),(73,_),(72,_),(71,_),(70,_)],_,_,_,_,S1⟩ ⟨Bl.symm,sq.symm,rfl,rfl,rfl,rfl,rfl,Wk.refl _,by simp,Nat.le_of_ble_eq_true rfl,fun _=>rfl,fun _=>rfl,fun _=>rfl,fun _=>rfl⟩
   ·subst fC
    refine Qe ?_
    refine Zq VT ?_
    refine Qe ?_
    refine Xoz (Bg (A:=[(73,_)]) (B:=[(75,_),(74,_),(75,_),(74,_),(73,_),(72,_),(71,_),(70,_)]) (S:=S) (S':={ S with tb:=tb }) (T:=T) rfl au au) ?_
    refine Ht (v:=false) (ex:=(73,_)::[(75,_),(74,_),(75,_),(74,_),(73,_),(72,_),(71,_),(70,_)]) eW (Qi hT) (Qi bI) (by simp[Qf,ah]) aI au au rfl ?_ ?_
    ·exact Qq @Xz
    unfold Zr
    refine Qe ?_
    exact hQ ⟨_,(73,_)::[(75,_),(74,_),(75,_),(74,_),(73,_),(72,_),(71,_),(70,_)],_,_,_,_,S1⟩ ⟨Bl.symm,sq.symm,rfl,rfl,rfl,rfl,rfl,Wk.nils,by simp,Nat.le_of_ble_eq_true rfl,fun _=>rfl,fun _=>rfl,fun _=>rfl,fun _=>rfl⟩
  ·rw[if_pos h6]at hx
   have N1:th=true:=by
    cases jd:th with
    | true=>rfl
    | false=>exact absurd (Bi jd) h6
   obtain ⟨xq,jx⟩:=VQ N1
   rw[xq]at hx
   obtain ⟨sq,Bl⟩:=Prod.mk.inj hx
   clear hx
   have hs:=hY _ _ _ Bl.symm
   have eW:=hs.goes (by rw[N0];exact h6)
   rw[N0]at eW
   generalize NS.goes S _ _ _=S1 at *
   unfold Pk.enc at eW
   dsimp only at eW
   refine Qh (An @k0 (An @k5 @qH)) ?_
   refine Yc5 (v:=false) (ex:=[(73,_),(73,_),(72,_),(72,_),(71,_),(70,_)]) eW (Qi hT) (Qi bI) (by simp[Qf,ah]) ae au (by simp;omega) rfl ?_ ?_
   ·exact Qq @Xz
   unfold Zr
   refine Qe ?_
   exact hQ ⟨_,[(73,_),(73,_),(72,_),(72,_),(71,_),(70,_)],_,_,_,_,S1⟩ ⟨Bl.symm,sq.symm,k0,k3,k4,k5,k8,Wk.nils,by simp;omega,hn,fun _=>rfl,fun _=>rfl,fun _=>rfl,fun _=>rfl⟩
 obtain ⟨t,ex,N,n,m,es,S1⟩:=i
 obtain ⟨hy,jd,k0,k3,k4,k5,k8,HM,hex,VU,HO,NY,NZ,HP⟩:=hi
 unfold OW.h at *
 have hs:=hY _ _ _ hy
 rw[Eo,hp]at jd
 have mT:=Vo c.gl h0 S1 T1 hs.nj bI hs.told es hs.len hs.bQ
 obtain ⟨N2,N3⟩:=hs.a
 have aG:=hs.aR
 have VV:=hs.out
 obtain ⟨z1,z2,z3,z4,z5⟩:=m
 dsimp only at jd aG VV N2 N3 k0 k3 k4 k5 k8 HM hex VU HO NY NZ HP ⊢
 obtain ⟨E,hE⟩:∃ E,Yh es=E:=⟨_,rfl⟩
 have oX:∀ n,ah n E:=fun n=>by rw[← hE];exact Ul n _
 have Bm:∀ ρ,ay ρ E=E:=fun ρ=>by rw[← hE,Yk];exact (List.map_congr_left fun v hv=>sP (Xi.1 (Ul 0 es) v hv)).trans (List.map_id _)
 rw[hE]at mT HM
 obtain ⟨tE,El⟩:=VJ f 0 (Z3 + z4) z5
 have wC:=Sx c.gl f 0 (Z3 + z4) z5 hf
 rw[El]at wC
 clear El
 rw[VP]at aG jd
 generalize Yz f 0 (Z3 + z4) z5=tf at *
 generalize S1.log es=S2 at *
 generalize jJ S1.told es=L at *
 generalize es.length=le at *
 have HB:∀ {S:NS} {T:WT},T.wf→HL ([(73,.cells [.int .i64 z1,.int .i64 z2,.int .i64 z3,.int .i64 z4,.int .i64 z5]),(72,.cells [.int .i64 p1,.int .i64 p2,.int .i64 p3,.int .i64 p4,.int .i64 p5,.int .i64 p6,.int .i64 p7,.int .i64 p8,.int .i64 p9,.int .i64 fT,.int .i64 fU,.str pb]),(71,.cells [.int .i64 0,.str [],.bool false,.str []]),(70,.cells [.int .i64 ak,.int .i64 an,.int .i64 ad,.str f])]++Qk S T) 74:=fun hT=>(((Qi hT).more (by simp[bP,ah,Qf])).more (by simp[bP,ah,Qf])).more (by simp[bP,ah,Qf]) |>.more (by simp[bP,ah,Qf])
 refine Qh (An @k3 (An @HO (An @k8 @HP))) ?_
 refine qA aY (To.Lh 11 (y:=.isl le E) HM) ?_
 refine qA (p:=[67]) (s':=⟨[(0,.ptr 67 0),(3,.ptr 70 0),(4,.ptr 71 0),(5,.ptr 72 0),(8,.ptr 73 0),(11,.isl le E),(141,.str f),(144,.int .i64 (Z3 + z4)),(146,.int .i64 z5)],[(73,.cells [.int .i64 z1,.int .i64 z2,.int .i64 z3,.int .i64 z4,.int .i64 z5]),(72,.cells [.int .i64 p1,.int .i64 p2,.int .i64 p3,.int .i64 p4,.int .i64 p5,.int .i64 p6,.int .i64 p7,.int .i64 p8,.int .i64 p9,.int .i64 fT,.int .i64 fU,.str pb]),(71,.cells [.int .i64 0,.str [],.bool false,.str []]),(70,.cells [.int .i64 ak,.int .i64 an,.int .i64 ad,.str f])]++Qk S1 T1,74⟩) aY ?_ ?_
 ·refine To.lJ (ex:=ex) bI (HB bI) aI VU au hex au (fun b h1 h2=>?_) ?_
  ·rcases (by omega:b=70∨b=71∨b=72∨b=73) with rfl|rfl|rfl|rfl
   ·rw[HO];rfl
   ·rw[NY];rfl
   ·rw[NZ];rfl
   ·rw[HP];rfl
  ·simp[Qu,Qf,ah,look,aD,ay,wB,lw,Bh,oX,Bm,k0,k3,k4,k5,k8]
 refine Zq wC ?_
 refine Qe ?_
 refine Ybk (v:=false) (pp:=[67]) (ex:=[(73,_),(72,_),(71,_),(70,_)]) (s3:=⟨[(0,.ptr 67 0),(4,.ptr 71 0),(5,.ptr 72 0),(16,.str tf),(150,.str tf),(153,.str L)],[(73,.cells [.int .i64 z1,.int .i64 z2,.int .i64 z3,.int .i64 z4,.int .i64 z5]),(72,.cells [.int .i64 p1,.int .i64 p2,.int .i64 p3,.int .i64 p4,.int .i64 p5,.int .i64 p6,.int .i64 p7,.int .i64 p8,.int .i64 p9,.int .i64 fT,.int .i64 fU,.str pb]),(71,.cells [.int .i64 0,.str [],.bool false,.str []]),(70,.cells [.int .i64 ak,.int .i64 an,.int .i64 ad,.str f])]++Qk S2 T1,74⟩) aY mT (Qi bI) (Qi bI) (by simp[Qf]) aI au rfl ?_ ?_ ?_
 ·exact Qq (An @Xz @oX)
 ·refine To.yG (ex:=[(73,_),(72,_),(71,_),(70,_)]) (Qi bI) (HB bI) aI au au au (fun b h1 h2=>?_) ?_
  ·rcases (by omega:b=70∨b=71∨b=72∨b=73) with rfl|rfl|rfl|rfl<;>rfl
  ·simp[Qu,Qf,ah,look,aD,ay]
 have rJ:=fun n b hb=>Yl (S:=S2) bI n b hb
 refine Qh @rJ ?_
 (refine Qa (fun jL=>?_) (fun jL=>?_)<;>try exact jL.elim)
 ·rw[if_pos ae]at jd
  subst jd
  have aG:=aG ae
  generalize NS.aR S2 tf=w at *
  obtain ⟨⟨r1,r2,r3,r4⟩,S3⟩:=w
  unfold Rp.enc at aG
  dsimp only at aG ⊢
  refine Qe ?_
  refine sQ (v:=false) (pp:=[67]) (ex:=(74,_)::(74,_)::[(73,_),(72,_),(71,_),(70,_)]) (s3:=⟨[(4,.ptr 71 0),(18,.ptr 74 0),(167,.agg [.int .i64 r1,.str r2,.bool r3,.str r4])],(74,.cells [.int .i64 0,.str tf,.bool false,.str L])::[(73,.cells [.int .i64 z1,.int .i64 z2,.int .i64 z3,.int .i64 z4,.int .i64 z5]),(72,.cells [.int .i64 p1,.int .i64 p2,.int .i64 p3,.int .i64 p4,.int .i64 p5,.int .i64 p6,.int .i64 p7,.int .i64 p8,.int .i64 p9,.int .i64 fT,.int .i64 fU,.str pb]),(71,.cells [.int .i64 0,.str [],.bool false,.str []]),(70,.cells [.int .i64 ak,.int .i64 an,.int .i64 ad,.str f])]++Qk S3 T',75⟩) aY aG (Qi bI) (Qi eX) (by simp[Qf,ah]) aI au au rfl ?_ ?_ ?_
  ·exact Qq @Xz
  ·unfold Zr
   refine To.lJ eX ((HB eX).more (by simp[bP,ah,Qf])) aI aI au au au (fun b h1 h2=>?_) ?_
   ·rcases (by omega:b=70∨b=71∨b=72∨b=73∨b=74) with rfl|rfl|rfl|rfl|rfl<;>rfl
   ·simp[Qu,Qf,ah,look,aD,ay,wB,lw,Bh]
  have sM:=fun n b hb=>Yl (S:=S3) eX n b hb
  refine Qh @sM ?_
  unfold Rp.enc
  exact ⟨(),To.drop (ex:=[(71,_),(74,_),(74,_),(74,_),(75,_),(75,_),(74,_),(73,_),(72,_),(71,_),(70,_)]) (Qi eX) au au (by simp[Qu,Qf,ah,look,aD,ay])⟩
 ·rw[if_neg ae]at jd
  subst jd
  obtain rfl:=VV ae
  refine Qe ?_
  unfold Rp.enc
  exact ⟨(),To.drop (ex:=[(71,_),(74,_),(74,_),(73,_),(72,_),(71,_),(70,_)]) (Qi bI) au au (by simp[Qu,Qf,ah,look,aD,ay])⟩
theorem VW (gl:Nat→AV) (t x:Int):GS Tryz.prog gl 100 [.int .i64 t,.ptr 0 0] [(0,.cells [.int .i64 x])] 1 (.bool (t == x)) [(0,.cells [.int .i64 x])] 1:=by
 refine Xqj.gs (of_decide_eq_true rfl) (by simp[Bk.live]) fun c hN hg=>?_
 conv in aQ _ _=>cbv
 refine Qe ?_
 refine ⟨[],?_⟩
 exact Qr
def pX (x:Int):List Int→Nat→Int
 | [],_=>-1
 | t::l,k=>if t=x then k else pX x l (k + 1)
set_option maxHeartbeats 1000000 in
theorem Xz1 (gl:Nat→AV) (l:List Int) (hl:l.length≤1000000) (x:Int):GS Tryz.prog gl 136 [.sl 1 0 0 l.length l.length,.cl 100 [.ptr 1 0]]
  [(0,.cells (Qo l)),(1,.cells [.int .i64 x])] 2 (.int .i64 (pX x l 0)) [(0,.cells (Qo l)),(1,.cells [.int .i64 x])] 2:=by
 refine Hx.gs (of_decide_eq_true rfl) (by simp[Bk.live]) fun c hN hg=>?_
 conv in aQ _ _=>cbv
 have dq:=Xv l
 refine Qe ?_
 refine Ui (fun k:Nat=>k≤l.length∧pX x (l.drop k) k=pX x l 0) (fun k=>⟨[(0,.sl 1 0 0 l.length l.length),(1,.cl 100 [.ptr 1 0]),(6,.sl 1 0 0 l.length l.length),(7,.int .i64 l.length),(8,.int .i64 k)],[(0,.cells (Qo l)),(1,.cells [.int .i64 x])],2⟩) (fun k=>l.length - k) Hx.mixed 2 hN
  ⟨0,⟨by omega,rfl⟩,[],by exact Qr⟩ fun k hk=>?_
 obtain ⟨hk,cK⟩:=hk
 refine Qe ?_
 (refine Qa (fun h1=>?_) (fun h1=>?_)<;>try exact h1.elim)
 ·have bw:k < l.length:=by omega
  have jt:=A6 l k bw
  have iD:l.drop k=l[k]::l.drop (k + 1):=List.drop_eq_getElem_cons bw
  rw[iD]at cK
  rw[pX]at cK
  generalize l[k]=t at *
  have hc:=VW c.gl t x
  refine Qh (An @dq @jt) ?_
  refine Xm (ip [1]) hc (An @dq @jt) ?_
  (refine Qa (fun h2=>?_) (fun h2=>?_)<;>try exact h2.elim)
  ·rw[if_pos (by simpa using h2)]at cK
   refine Qe ?_
   refine ⟨[],?_⟩
   exact Qq @cK
  ·rw[if_neg (by simpa using h2)]at cK
   refine Qe ?_
   refine ⟨k + 1,⟨by omega,cK⟩,⟨[],?_⟩,by omega⟩
   exact Qr
 ·have:k=l.length:=by omega
  subst this
  rw[List.drop_length]at cK
  have cK:(-1:Int)=pX x l 0:=cK
  refine Qe ?_
  refine ⟨[],?_⟩
  exact Qq @cK
theorem VX {x:Int}:∀ (l:List Int) (k:Nat),pX x l k=-1→∀ t ∈ l,t≠x
 | [],_,_,t,ht=>by cases ht
 | a::l,k,h,t,ht=>by
  unfold pX at h
  split at h
  ·omega
  ·rcases List.mem_cons.1 ht with rfl|ht
   ·assumption
   ·exact VX l (k + 1) h t ht
theorem VY {x:Int}:∀ (l:List Int) (k:Nat),pX x l k≠-1→∃ i,i < l.length∧pX x l k=((k + i:Nat):Int)∧(∀ t ∈ l.take i,t≠x)∧∃ t,l[i]?=some t∧t=x
 | [],_,h=>absurd rfl h
 | a::l,k,h=>by
  unfold pX at h ⊢
  split at h
  ·rename_i e
   rw[if_pos e]
   exact ⟨0,by simp,by simp,by simp,a,rfl,e⟩
  ·rename_i e
   rw[if_neg e]
   obtain ⟨i,h1,h2,h3,t,h4,h5⟩:=VY l (k + 1) h
   refine ⟨i + 1,by simpa using h1,by rw[h2];omega,fun y hy=>?_,t,by simpa using h4,h5⟩
   rw[List.take_succ_cons]at hy
   rcases List.mem_cons.1 hy with rfl|hy
   ·exact e
   ·exact h3 y hy
theorem Xvy:Ae Tryz.prog 52 1:=KL (by kernel_rfl)
def dY (x:Int) (l:List Int):List Int:=l.filter fun t=>!(t == x)
theorem Xfr (l:List Int) (k:Nat) (h:k≤l.length):(Qo l).take k=Qo (l.take k):=by simp[Qo]
set_option maxHeartbeats 2000000 in
theorem Xzo (gl:Nat→AV) (l:List Int) (hl:l.length≤1000000) (x:Int):GS Tryz.prog gl 99 [.sl 1 0 0 l.length l.length,.cl 100 [.ptr 1 0]]
  [(0,.cells (Qo l)),(1,.cells [.int .i64 x])] 2 (.sl 1 0 0 (dY x l).length l.length) [(0,.cells (Qo (dY x l))),(1,.cells [.int .i64 x])] 2:=by
 refine Vi.gs (of_decide_eq_true rfl) (by simp[Bk.live]) fun c hN hg=>?_
 conv in aQ _ _=>cbv
 have dq:=Xv l
 have hi:=Xz1 c.gl l hl x
 refine Qe ?_
 ((first|refine tM (ins:=[0,1]) hi ?_ ?_|refine tN (ins:=[0,1]) hi ?_ ?_|refine tQ (ins:=[0,1]) hi ?_ ?_|refine tS (ins:=[0,1]) hi ?_ ?_)<;>(have aJ:=@dq;refine XG ?_;clear aJ;(try first|exact rfl|exact True.intro);((try (repeat' with_reducible refine And.intro ?_ ?_));(try any_goals (first|refine zm ?_|exact CL|fail)))))
 ·decide
 by_cases cd:pX x l 0=-1
 ·have ew:dY x l=l:=List.filter_eq_self.2 fun t ht=>by simpa using VX l 0 cd t ht
  rw[ew]
  (refine Qa (fun h1=>?_) (fun h1=>?_)<;>try exact h1.elim)
  ·refine Qe ?_
   refine ⟨[],?_⟩
   exact Qr
  ·exact absurd cd (by simpa using h1)
 ·obtain ⟨i0,q1,q2,q3,t0,q4,q5⟩:=VY l 0 cd
  rw[Nat.zero_add]at q2
  rw[q2]
  (refine Qa (fun h1=>?_) (fun h1=>?_)<;>try exact h1.elim)
  ·omega
  refine Qe ?_
  refine Ui (fun y:Nat × Nat × List Int=>y.1 < y.2.1∧y.2.1≤l.length∧y.2.2.length=l.length∧y.2.2.take y.1=dY x (l.take y.2.1)∧y.2.2.drop y.2.1=l.drop y.2.1)
   (fun y=>⟨[(0,.sl 1 0 0 l.length l.length),(1,.cl 100 [.ptr 1 0]),(5,.int .i64 y.1),(6,.int .i64 y.2.1)],[(0,.cells (Qo y.2.2)),(1,.cells [.int .i64 x])],2⟩) (fun y=>l.length - y.2.1) Vi.mixed 2 hN
   ⟨(i0,i0 + 1,l),⟨by simp,by show i0 + 1≤l.length;omega,rfl,?_,rfl⟩,[],by exact Qr⟩ fun y hy=>?_
  ·have:l.take (i0 + 1)=l.take i0++[t0]:=by rw[List.take_succ,q4];rfl
   show l.take i0=dY x (l.take (i0 + 1))
   rw[this]
   unfold dY
   rw[List.filter_append,List.filter_eq_self.2 fun t ht=>by simpa using q3 t ht]
   simp[q5]
  obtain ⟨i,j,M⟩:=y
  obtain ⟨iM,kV,hM,bW,mR⟩:=hy
  dsimp only at iM kV hM bW mR ⊢
  have uH:=Xv M
  refine Qe ?_
  (refine Qa (fun h2=>?_) (fun h2=>?_)<;>try exact h2.elim)
  ·have mE:j < l.length:=by omega
   have DQ:j < M.length:=by omega
   have a7:=A6 M j DQ
   have M5:M[j]=l[j]:=by
    have e1:(M.drop j)[0]?=M[j]?:=by simp
    have e2:(l.drop j)[0]?=l[j]?:=by simp
    rw[mR,e2]at e1
    simpa [mE,DQ] using e1.symm
   have eQ:dY x (l.take (j + 1))=if M[j]=x then dY x (l.take j) else dY x (l.take j)++[M[j]]:=by
    have:l.take (j + 1)=l.take j++[M[j]]:=by rw[List.take_succ,M5];simp[mE]
    rw[this]
    unfold dY
    rw[List.filter_append]
    split<;>simp_all
   have iD:M.drop (j + 1)=l.drop (j + 1):=by
    have:=congrArg (List.drop 1) mR
    simpa [List.drop_drop,Nat.add_comm] using this
   have br:(Qo M).set i (.int .i64 M[j])=Qo (M.set i M[j]):=by simp[Qo,List.map_set]
   have gZ:((M.set i M[j]).take (i + 1))=M.take i++[M[j]]:=by
    rw[List.take_succ,List.take_set_of_le (Nat.le_refl i)]
    simp[show i < M.length by omega]
   have yf:(M.set i M[j]).drop (j + 1)=M.drop (j + 1):=by rw[List.drop_set_of_lt ae]
   have ie:(M.set i M[j]).length=l.length:=by simp[hM]
   have htS:=Xv (M.set i M[j])
   generalize M[j]=t at *
   have hc:=VW c.gl t x
   refine Qh (An @uH @a7) ?_
   refine Xm (ip [1]) hc (An @uH @a7) ?_
   (refine Qa (fun h3=>?_) (fun h3=>?_)<;>try exact h3.elim)
   ·rw[if_neg h3]at eQ
    refine Qh (An @uH @br) ?_
    refine ⟨(i + 1,j + 1,M.set i t),⟨by dsimp only;omega,by dsimp only;omega,ie,by rw[gZ,bW,eQ],by rw[yf,iD]⟩,⟨[],?_⟩,by dsimp only;omega⟩
    exact Qr
   ·rw[if_pos (by simpa using h3)]at eQ
    refine Qh @uH ?_
    refine ⟨(i,j + 1,M),⟨by dsimp only;omega,by dsimp only;omega,hM,by rw[bW,eQ],iD⟩,⟨[],?_⟩,by dsimp only;omega⟩
    exact Qr
  ·obtain rfl:j=l.length:=by omega
   rw[List.take_length]at bW
   have fw:(dY x l).length=i:=by rw[← bW,List.length_take];omega
   have gC:=Xfr M i ae
   rw[bW]at gC
   refine Qe ?_
   (refine F9 Xvy ?_;(have aJ:=@gC;refine XG ?_;clear aJ;((try (repeat' with_reducible refine And.intro ?_ ?_));(try any_goals (first|refine zm ?_|exact CL|fail)))))
   refine Qe ?_
   refine ⟨[],?_⟩
   exact Qq @fw
end Go.Proofs.YtogckmommodmhaaGreatDoor
