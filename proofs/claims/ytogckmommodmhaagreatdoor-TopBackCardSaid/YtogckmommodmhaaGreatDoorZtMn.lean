import Derived.Test.YtogckmommodmhaaGreatDoorZt5
import Derived.Test.YtogckmommodmhaaGreatDoorZt4
import Derived.Test.YtogckmommodmhaaGreatDoorZt11
import Derived.Test.YtogckmommodmhaaGreatDoorZt16
import Derived.Test.YtogckmommodmhaaGreatDoorZtMa
import Derived.Test.YtogckmommodmhaaGreatDoorZtMb
import Derived.Test.YtogckmommodmhaaGreatDoorZtMd
import Derived.Test.YtogckmommodmhaaGreatDoorZtMi
import Derived.KernelRfl
import Derived.Test.YtogckmommodmhaaGreatDoorRows
set_option maxHeartbeats 16000000
namespace Go.Proofs.YtogckmommodmhaaGreatDoor
open Go.RowKit
set_option linter.all false
set_option linter.unusedSimpArgs false
set_option maxRecDepth 100000
section
variable {P:Program} {c:Cx}
theorem E5 {f:FuncId} {caps fY:List AV} {r:AV} (dK:PS P c.gl f (fY++caps) r) (eM:ai 0 (fY++caps)):jN P c .cu (.cl f caps::fY) r:=by
 intro o ys aJ g W a w hX fD hv K Q hK
 obtain ⟨x,zs,ts,rfl,bh⟩:=KI aJ
 rw[List.map_cons]at hv
 obtain ⟨h1,h2⟩:=hv
 generalize hx:a.eval x=vx at h1
 cases h1 with
 | cl hs h =>
  have h3:=Ge h2 (Gf (xs:=caps) (us:=Array.toList _) (by simpa using hs) fun j hj=>by
   have:=h j hj
   simpa [Array.getD_eq_getD_getElem?,List.getD] using this)
  have h4:bL (fun _=>.un) W w (fY++caps) _:=JP (n:=0) (fun b hb=>absurd hb af) h3 eM
  unfold Oper.wp
  rw[KJ dK.1 bh a w _ hx]
  rw[Oper.upon_enter]
  refine (dK.2 w _ _ hX fD h4).mono fun e w' ⟨v,e1,e2,e3⟩=>?_
  subst e1
  exact hK v w' e3 (e2.mono (Fr.refl _ _) (fun _ _ h=>h) (fun _ h=>absurd rfl h))
end
theorem Qzi (m:Mp):Je m.ae m.a m.port m=true:=by simp[Je]
theorem Xgg {m o:Mp} (h:Je m.ae m.a m.port o=true):Zv o m=true:=by
 unfold Je at h;unfold Zv
 simp at h ⊢
 exact ⟨h.1.1.symm,Or.inl ⟨h.1.2.symm,h.2.symm⟩⟩
theorem GT.back {t:Tb} (h:GT t) {m:Mp} (hm:m ∈ t.maps):t.maps.find? (Je m.ae m.a m.port)=some m :=
 Tz _ m hm (Qzi m) fun o ho hp=>Ty h.apart ho hm (Xgg hp)
def sZ (x n:Int):Int:=x % n
theorem E6 (x:Int) {n:Int} (h:0 < n):0≤sZ x n∧sZ x n < n:=⟨Int.emod_nonneg x (by omega),Int.emod_lt_of_pos x h⟩
theorem Xor:FT Tryz.prog 31 Tryz.f31 (aO Tryz.prog Tryz.f31) [.t 6]:=.of Tryz.func31
theorem O0 {S:NS} (h:NK S) (a:Ac):(S.step a).2.aF≤S.aF + 1:=by
 unfold NS.step
 split
 ·exact Nat.le_succ _
 have h1:=h.toNI.cP (S.aF + 1)
 dsimp only
 split
 ·exact Nat.le_of_eq (h1.out a.frame a.draw).2.act
 split
 ·exact Nat.le_of_eq (h1.aN a.frame).2.act
 split
 ·exact Nat.le_of_eq (h1.tick a.n).2.act
 split
 ·split<;>exact Nat.le_refl _
 ·exact Nat.le_refl _
theorem XI (b:Bool) (l:List Ac):∀ i,(Xq b l i).aF≤i
 | 0=>Nat.le_refl _
 | i + 1=>Nat.le_trans (O0 (We b l i) _) (Nat.succ_le_succ (XI b l i))
theorem Xv5 (gl:Nat→AV) (S:NS) (T:WT) (hT:T.wf) (a:Ac) (r:Rp):GD Tryz.prog gl 31 [.ptr 67 0,.agg a.enc,.agg r.enc] (Qm S T) 70 (List.range 70) (.bool true) (Qm S T):=by
 refine Xor.gq (of_decide_eq_true rfl) (Zs hT) (fun b hb=>List.mem_range.1 hb) fun c aY hg=>?_
 conv in aO _ _=>cbv
 have aH:=fun n b hb=>Ya (S:=S) hT n b hb
 obtain ⟨a1,a2,a3,a4⟩:=a
 obtain ⟨r1,r2,r3,r4⟩:=r
 unfold Ac.enc Rp.enc
 refine Qh @aH ?_
 exact ⟨(),To.drop (ex:=[(71,_),(70,_)]) (Qj hT) au au (by simp[Qu,Qe,ai,look,aD,ay])⟩
def wF (x:Int):Prop:=-9223372036854775808≤x∧x≤9223372036854775807
theorem Yfm (x n:Int) (hn:0 < n):(x.tmod n + n).tmod n=sZ x n:=by
 have hb:=AO x n hn
 unfold sZ
 rw[Int.tmod_eq_emod_of_nonneg af,Int.add_emod_right]
 have h0:x % n=(x.tmod n) % n:=by
  have h1:=Int.mul_tdiv_add_tmod x n
  conv=>lhs;rw[← h1,Int.add_comm,Int.add_mul_emod_self_left]
 exact h0.symm
theorem Xvp {p:aw} (h:p.ca=true) {s a:Int} (hs:0≤s∧s < 8) (ha:0≤a∧a < 3) (draw:Int):(p.take s a draw).2.2=0∨(p.take s a draw).2.2=9∨(p.take s a draw).2.2=10:=by
 unfold aw.take
 rw[if_pos h,if_pos ⟨by unfold Jq;simp;omega,hs⟩]
 split
 ·exact .inr (.inl rfl)
 split
 ·exact .inr (.inr rfl)
 ·exact .inl rfl
theorem XJ {t:Tb} (h:GT t) {s a:Int} (hs:0≤s∧s < 8) (ha:0≤a∧a < 3) (ae aN draw:Int):(t.tk ae s aN a draw).2.2.2=0∨(t.tk ae s aN a draw).2.2.2=9∨(t.tk ae s aN a draw).2.2.2=10:=by
 have:=Xvp h.aq hs ha draw
 unfold Tb.tk
 split
 ·exact this
 ·exact .inl rfl
theorem Xs9 {p:aw} (h:p.ca=true) (draw:Int):((p.pick draw).2=0∧0≤(p.pick draw).1∧(p.pick draw).1 < 3)∨(p.pick draw).2=10:=by
 unfold aw.pick
 rw[if_pos h]
 split
 ·exact .inr rfl
 ·refine .inl ⟨rfl,Int.natCast_nonneg _,?_⟩
  have:∀ i,(p.opens 3).getD i 0 < 3:=fun i=>by
   by_cases hi:i < (p.opens 3).length
   ·have hm:(p.opens 3).getD i 0 ∈ p.opens 3:=by
     simp only[List.getD,List.getElem?_eq_getElem hi,Option.getD_some];exact List.getElem_mem hi
    unfold aw.opens at hm
    exact List.mem_range.1 (List.mem_filter.1 hm).1
   ·simp[List.getD,List.getElem?_eq_none (Nat.le_of_not_lt hi)]
  dsimp only
  have:=this (draw % ((p.opens 3).length:Int)).toNat
  omega
theorem Yc6 {t:Tb} (h:GT t) (hw:t.wf) {ae:Int} {S:Nat} {aN:Int} (bB:Zu ae S aN=true) (draw:Int):(t.cx ae S aN draw).2.2.2=0∨(t.cx ae S aN draw).2.2.2=6∨(t.cx ae S aN draw).2.2.2=9∨(t.cx ae S aN draw).2.2.2=10:=by
 have b7:¬ (Wi t=false∨Zu ae S aN=false):=by
  rw[(vJ t).2 (Wc.2 h),bB];simp
 obtain ⟨_,nB,_⟩:=Kp bB
 have hh:=Tb.mQ (Wc.2 h) hw (s:=S) af
 have up:∀ e:Int,e=0∨e=9∨e=10→e=0∨e=6∨e=9∨e=10:=fun e h=>by omega
 unfold Tb.cx
 rw[if_neg b7,Int.toNat_natCast]
 split
 ·exact .inl rfl
 split
 ·exact .inr (.inl rfl)
 split
 ·exact .inl rfl
 split
 ·exact .inr (.inl rfl)
 split
 ·exact up _ (XJ h nB af ae aN draw)
 rcases Xs9 h.aq draw with ⟨h1,h2⟩|h1
 ·rw[if_neg (by rw[h1];simp)]
  exact up _ (XJ h nB h2 ae aN draw)
 ·rw[if_pos (by rw[h1];decide)]
  exact .inr (.inr (.inr h1))
structure Dg (S:NS) (F:List UInt8) (p:Pk):Prop where
 e:bP F=0
 k:az F=p
 u:p.ae=17
 s:0≤p.aA - 167772161∧p.aA - 167772161 < 8
 t:p.av=9
 d:¬ (0≤p.dst - 3405803777∧p.dst - 3405803777 < 3)
theorem XK {S:NS} {F:List UInt8} {m:Mp} {es:List Ev} (hd:¬ (0≤(az F).dst - 3405803777∧(az F).dst - 3405803777 < 3)):(S.en F m es).1.code=0:=by
 rw[wm,if_neg hd]
theorem O1 (S:NS) (f:List UInt8) (e:Int):(S.refuse f e).1.code=e:=by
 unfold NS.refuse
 split<;>rfl
theorem XL {S:NS} (hS:NI S) {F:List UInt8} {p:Pk} (h:Dg S F p) (draw:Int):((S.out F draw).1.code=0∨(S.out F draw).1.code=6∨(S.out F draw).1.code=9∨(S.out F draw).1.code=10) ∧
  ((∃ m,S.tb.maps.find? (Ze p.ae (p.aA - 167772161) p.ah)=some m)→(S.out F draw).1.code=0∨(S.out F draw).1.code=6):=by
 obtain ⟨he,hk,hu,hs,ht,hd⟩:=h
 subst hk
 rw[Br,if_neg (by rw[he];simp),if_neg af,if_neg (by rw[hu];simp),if_neg (by rw[ht];decide)]
 split
 ·rename_i hk
  split
  ·rw[XK hd];exact ⟨.inl rfl,fun _=>.inl rfl⟩
  ·rename_i hm
   unfold NS.cR at hk
   rw[hm]at hk
   exact absurd rfl hk
 rw[if_neg (by unfold yJ;rw[if_pos hu];simp)]
 split
 ·rw[O1];exact ⟨.inr (.inl rfl),fun _=>.inr rfl⟩
 obtain ⟨S0,lU⟩:∃ S0:Nat,(az F).aA - 167772161=S0:=⟨((az F).aA - 167772161).toNat,by omega⟩
 obtain ⟨hp,hr⟩:=NW he
 have bB:Zu (az F).ae S0 (az F).ah=true:=NV hp af af hr.2.2.2.2.1.1 hr.2.2.2.2.1.2
 have XN:=Yc6 hS.gt hS.wf bB draw
 have XO:(∃ m,S.tb.maps.find? (Ze (az F).ae S0 (az F).ah)=some m)→(S.tb.cx (az F).ae S0 (az F).ah draw).2.2.2=0:=fun ⟨m,hm⟩=>by
  unfold Tb.cx
  rw[if_neg (by rw[(vJ S.tb).2 (Wc.2 hS.gt),bB];simp),hm]
 rw[← lU]at XN XO
 split
 ·rename_i ho
  rw[O1]
  exact ⟨XN,fun h=>absurd (XO h) ho⟩
 ·unfold NS.opened
  rw[XK hd];exact ⟨.inl rfl,fun _=>.inl rfl⟩
theorem Xt9 {S:NS} (hS:NI S) {F:List UInt8} {draw:Int} (h0:(S.out F draw).1.code=0):∃ m es S1,uW S F (S.out F draw) m es S1:=by
 rcases Ir hS F draw with ⟨e,h,he⟩|⟨e,he,_,h⟩|h
 ·rw[h]at h0;exact absurd h0 he
 ·rw[h,O1]at h0;exact absurd h0 he
 ·exact h
theorem XQ {S:NS} (hS:NI S) {F:List UInt8} {p:Pk} (h:Dg S F p) {draw:Int} (h0:(S.out F draw).1.code=0):∃ m,m ∈ (S.out F draw).2.tb.maps∧rS m∧(m.ae=17∧m.s=p.aA - 167772161∧m.aN=p.ah)∧(∀ o ∈ S.tb.maps,o ∈ (S.out F draw).2.tb.maps) ∧
  (∃ q ∈ (S.out F draw).2.fl,q.2.map=m∧q.2.rem=p.dst∧q.2.rport=p.aj)∧bP (S.out F draw).1.frame=0∧az (S.out F draw).1.frame=Uj p 0 (3405803777 + m.a) m.port∧(S.out F draw).1.frame.length≤F.length:=by
 obtain ⟨m,es,S1,hw⟩:=Xt9 hS h0
 obtain ⟨k1,k2⟩:=hw.read
 have hd:=h.d
 rw[← h.k]at hd
 have e:S.out F draw=(⟨0,Yq F 0 (3405803777 + m.a) m.port,false,pZ S1.told es⟩,S1.log es):=by rw[hw.is,wm,if_neg hd]
 rw[e]
 have hf:=hw.fwd
 have hq:=hw.OQ
 rw[h.k]at k2 hf hq
 exact ⟨m,hw.mem,hw.ni.gt.oY hw.mem,⟨hf.1.trans h.u,hf.2.1,hf.2.2⟩,hw.sub,hq,k1,k2,EC ..⟩
theorem Yeu {S:NS} (hS:NI S) {F:List UInt8} {p:Pk} (he:bP F=0) (hk:az F=p) {m:Mp} (hm:m ∈ S.tb.maps) (hp:m.ae=p.ae∧m.a=p.dst - 3405803777∧m.port=p.aj) (hu:p.ae=17) (ht:p.av=9) (hd:0≤p.dst - 3405803777∧p.dst - 3405803777 < 3)
  (hq:∃ q ∈ S.fl,q.2.map=m∧q.2.rem=p.aA∧q.2.rport=p.ah):(S.aN F).1=⟨0,Yq F 1 (167772161 + m.s) m.aN,true,[]⟩∧(S.aN F).2.tb=S.tb∧bP (Yq F 1 (167772161 + m.s) m.aN)=0∧az (Yq F 1 (167772161 + m.s) m.aN)=Uj p 1 (167772161 + m.s) m.aN:=by
 have hb:=hS.gt.back hm
 rw[hp.1,hp.2.1,hp.2.2]at hb
 have hf0:S.findF m p.aA p.ah≠0:=fun e=>by
  obtain ⟨q,mg,kv⟩:=hq
  exact NF (NI.yP hS.toNJ) e q mg kv
 have hr:=WW (f:=F) (hS.gt.oY hm) he (by rw[hk,hu];simp) (by rw[hk,ht];decide) (by rw[hk];exact hp.2.2.symm)
 rw[hk]at hr
 rw[Ew,hk,if_neg (by rw[he];simp),if_neg af,if_neg (by rw[hu];simp),if_neg (by rw[ht];decide),hb]
 dsimp only
 rw[if_pos hf0]
 exact ⟨rfl,rfl,hr⟩
theorem XR (S:NS) (F:List UInt8) (draw:Int) (ha:S.aF < 300):S.step ⟨1,0,draw,F⟩=({ S with aF:=S.aF + 1 }:NS).out F draw:=by
 unfold NS.step
 rw[if_neg af]
 rfl
theorem Xzy (S:NS) (F:List UInt8) (ha:S.aF < 300):S.step ⟨2,0,0,F⟩=({ S with aF:=S.aF + 1 }:NS).aN F:=by
 unfold NS.step
 rw[if_neg af]
 rfl
def kQ:List UInt8:=[116,104,101,114,101]
def tc:List UInt8:=[98,97,99,107]
theorem Xxd {S:NS} (hK:NK S) (ha:S.aF≤100) {s port to rport uZ draw:Int} (b1:0≤s∧s < 8) (b2:0≤port∧port≤65535) (b3:0≤to∧to < 16777216) (b4:0≤rport∧rport≤65535) (b5:0≤uZ∧uZ < 16777216)
  {F1 F3:List UInt8} (h1:Dg S F1 ⟨17,167772161 + s,port,to,rport,9,0,0,0,0,0,kQ⟩) (h3:Dg S F3 ⟨17,167772161 + s,port,uZ,7,9,0,0,0,0,0,kQ⟩) :
  (S.step ⟨1,0,draw,F1⟩).1.code=6∨(S.step ⟨1,0,draw,F1⟩).1.code=9∨(S.step ⟨1,0,draw,F1⟩).1.code=10 ∨
  (S.step ⟨1,0,draw,F1⟩).1.code=0∧∃ ma mp:Int,(0≤ma∧ma < 3)∧(1024≤mp∧mp < 1072)∧bP (S.step ⟨1,0,draw,F1⟩).1.frame=0∧az (S.step ⟨1,0,draw,F1⟩).1.frame=⟨17,3405803777 + ma,mp,to,rport,9 - 1,0,0,0,0,0,kQ⟩ ∧
   ∀ F2,bP F2=0→az F2=⟨17,to,rport,3405803777 + ma,mp,9,0,0,0,0,0,tc⟩ →
    (∃ G,((S.step ⟨1,0,draw,F1⟩).2.step ⟨2,0,0,F2⟩).1=⟨0,G,true,[]⟩∧bP G=0∧az G=⟨17,to,rport,167772161 + s,port,9 - 1,0,0,0,0,0,tc⟩) ∧
    ((((S.step ⟨1,0,draw,F1⟩).2.step ⟨2,0,0,F2⟩).2.step ⟨1,0,0,F3⟩).1.code=6∨(((S.step ⟨1,0,draw,F1⟩).2.step ⟨2,0,0,F2⟩).2.step ⟨1,0,0,F3⟩).1.code=0∧bP (((S.step ⟨1,0,draw,F1⟩).2.step ⟨2,0,0,F2⟩).2.step ⟨1,0,0,F3⟩).1.frame=0 ∧
     (az (((S.step ⟨1,0,draw,F1⟩).2.step ⟨2,0,0,F2⟩).2.step ⟨1,0,0,F3⟩).1.frame).aA=3405803777 + ma∧(az (((S.step ⟨1,0,draw,F1⟩).2.step ⟨2,0,0,F2⟩).2.step ⟨1,0,0,F3⟩).1.frame).ah=mp):=by
 have wG:=hK.step ⟨1,0,draw,F1⟩
 have Mb:=O0 hK ⟨1,0,draw,F1⟩
 have hN:=hK.toNI.cP (S.aF + 1)
 have hc:=(XL hN (p:=⟨17,167772161 + s,port,to,rport,9,0,0,0,0,0,kQ⟩) ⟨h1.e,h1.k,h1.u,h1.s,h1.t,h1.d⟩ draw).1
 have hd:=fun h0=>XQ hN (p:=⟨17,167772161 + s,port,to,rport,9,0,0,0,0,0,kQ⟩) (F:=F1) ⟨h1.e,h1.k,h1.u,h1.s,h1.t,h1.d⟩ (draw:=draw) h0
 rw[← XR S F1 draw af]at hc hd
 generalize S.step ⟨1,0,draw,F1⟩=x1 at *
 rcases hc with hc|hc|hc|hc
 rotate_left
 ·exact .inl hc
 ·exact .inr (.inl hc)
 ·exact .inr (.inr (.inl hc))
 refine .inr (.inr (.inr ⟨hc,?_⟩))
 obtain ⟨m,d1,d2,d3,d4,d5,d6,d7,_⟩:=hd hc
 refine ⟨m.a,m.port,d2.a,d2.port,d6,d7,fun F2 e2 k2=>?_⟩
 dsimp only at d3 d5
 have Mb:x1.2.aF≤101:=by omega
 have su:=wG.toNI.cP (x1.2.aF + 1)
 have hm:=d2.a
 obtain ⟨g1,g2,g3,g4⟩:=Yeu (S:={ x1.2 with aF:=x1.2.aF + 1 }) su e2 k2 (m:=m) d1 ⟨d3.1,by dsimp only;omega,rfl⟩ rfl rfl (by dsimp only;omega) d5
 have zn:=wG.step ⟨2,0,0,F2⟩
 have ha2:=O0 wG ⟨2,0,0,F2⟩
 rw[← Xzy x1.2 F2 af]at g1 g2
 generalize x1.2.step ⟨2,0,0,F2⟩=x2 at *
 have es:167772161 + m.s=167772161 + s:=by rw[d3.2.1];omega
 refine ⟨⟨_,g1,g3,by rw[g4,es,d3.2.2];rfl⟩,?_⟩
 have ha2:x2.2.aF≤102:=by omega
 have pC:=zn.toNI.cP (x2.2.aF + 1)
 have iE:m ∈ x2.2.tb.maps:=by rw[g2];exact d1
 have uM:=zn.gt.fwd iE
 rw[d3.1,d3.2.1,d3.2.2]at uM
 have zo:=(XL pC (p:=⟨17,167772161 + s,port,uZ,7,9,0,0,0,0,0,kQ⟩) (F:=F3) ⟨h3.e,h3.k,h3.u,h3.s,h3.t,h3.d⟩ 0).2 ⟨m,uM⟩
 have XS:=fun h0=>XQ pC (p:=⟨17,167772161 + s,port,uZ,7,9,0,0,0,0,0,kQ⟩) (F:=F3) ⟨h3.e,h3.k,h3.u,h3.s,h3.t,h3.d⟩ (draw:=0) h0
 have XT:=zn.step ⟨1,0,0,F3⟩
 rw[← XR x2.2 F3 0 af]at zo XS
 generalize x2.2.step ⟨1,0,0,F3⟩=x3 at *
 rcases zo with zo|zo
 rotate_left
 ·exact .inl zo
 obtain ⟨m3,f1,f2,f3,f4,f5,f6,f7,_⟩:=XS zo
 have sI:m3=m:=by
  have q1:=XT.gt.fwd f1
  have q2:=XT.gt.fwd (f4 m iE)
  rw[f3.1,f3.2.1,f3.2.2]at q1
  rw[d3.1,d3.2.1,d3.2.2]at q2
  exact Option.some.inj (q1.symm.trans q2)
 subst sI
 exact .inr ⟨zo,f6,by rw[f7];rfl,by rw[f7];rfl⟩
theorem XU {S:NS} {s port to rport:Int} (b1:0≤s∧s < 8) (b2:0≤port∧port≤65535) (b3:0≤to∧to < 16777216) (b4:0≤rport∧rport≤65535) :
  Yr ⟨17,167772161 + s,port,to,rport,9,0,0,0,0,0,kQ⟩=0∧Dg S (Xl ⟨17,167772161 + s,port,to,rport,9,0,0,0,0,0,kQ⟩) ⟨17,167772161 + s,port,to,rport,9,0,0,0,0,0,kQ⟩∧(Xl ⟨17,167772161 + s,port,to,rport,9,0,0,0,0,0,kQ⟩).length≤140737488351232:=by
 have pO:Yr ⟨17,167772161 + s,port,to,rport,9,0,0,0,0,0,kQ⟩=0:=Di au (by simp only[Ji];omega) (by simp[kQ]) (by simp[Wd])
 obtain ⟨h1,h2⟩:=OA _ pO
 exact ⟨pO,⟨h1,h2,rfl,by dsimp only;omega,rfl,by dsimp only;omega⟩,by rw[Oz,Jj _ au];simp[kQ]⟩
theorem Yfo {to rport ma mp:Int} (b3:0≤to∧to < 16777216) (b4:0≤rport∧rport≤65535) (b5:0≤ma∧ma < 3) (b6:1024≤mp∧mp < 1072) :
  Yr ⟨17,to,rport,3405803777 + ma,mp,9,0,0,0,0,0,tc⟩=0∧(Xl ⟨17,to,rport,3405803777 + ma,mp,9,0,0,0,0,0,tc⟩).length≤140737488351232:=by
 have pO:Yr ⟨17,to,rport,3405803777 + ma,mp,9,0,0,0,0,0,tc⟩=0:=Di au (by simp only[Ji];omega) (by simp[tc]) (by simp[Wd])
 exact ⟨pO,by rw[Oz,Jj _ au];simp[tc]⟩
theorem E7 (gl:Nat→AV) (x n:Int) (hx:wF x) (hn:0 < n∧n≤4294967296):PS Tryz.prog gl 32 [.int .i64 x,.int .i64 n] (.int .i64 (sZ x n)):=by
 have iu:FT Tryz.prog 32 Tryz.f32 (aO Tryz.prog Tryz.f32) [.t 4]:=.of Tryz.func32
 refine iu.ps (of_decide_eq_true rfl) (by simp[Qe]) fun c hN hg=>?_
 conv in aO _ _=>cbv
 have hb:=AO x n hn.1
 have hp:=Yfm x n hn.1
 have hq:-n < (x.tmod n + n).tmod n∧(x.tmod n + n).tmod n < n:=AO _ n hn.1
 unfold wF at hx
 exact Qr @hp
theorem Xeg (gl:Nat→AV) (h0:gl 0=.xp (Qp Xi) 0) (b:Bool) (l:List Ac) (s0 j4 vY gP draw:Int) (h1:wF s0) (h2:wF j4) (h3:wF vY) (h4:wF gP) (h5:wF draw) (hl:mh l) (hlen:l.length≤140737488351232) :
  PS Tryz.prog gl 6 [.bool b,.isl l.length (cT l),.int .i64 s0,.int .i64 j4,.int .i64 vY,.int .i64 gP,.int .i64 draw] (.bool true):=by
 obtain ⟨T,D,hW,hP,eQ⟩:=OR gl h0 b l hl hlen 31 fun i hi T hT=>Xv5 gl _ T hT _ _
 have hK:=We b l (Yb l)
 have hT:=hW.wf
 have hac:(Xq b l (Yb l)).aF≤100:=Nat.le_trans (XI b l (Yb l)) (Nat.min_le_right _ _)
 generalize Xq b l (Yb l)=S at *
 have pk1:=E7 gl s0 8 h1 aR
 have pk2:=E7 gl j4 65536 h2 aR
 have pk3:=E7 gl gP 65536 h4 aR
 have pk4:=E7 gl vY 16777216 h3 aR
 have b1:=E6 s0 (n:=8) aR
 have b2:=E6 j4 (n:=65536) aR
 have b3:=E6 gP (n:=65536) aR
 have b4:=E6 vY (n:=16777216) aR
 generalize sZ s0 8=s at *
 generalize sZ j4 65536=port at *
 generalize sZ gP 65536=rport at *
 generalize sZ vY 16777216=to at *
 have pk5:=E7 gl (to + 1) 16777216 (by unfold wF;omega) aR
 have b5:=E6 (to + 1) (n:=16777216) aR
 generalize sZ (to + 1) 16777216=uZ at *
 obtain ⟨e1,XV,l1⟩:=XU (S:=S) b1 af b4 (by omega:0≤rport∧rport≤65535) (port:=port)
 obtain ⟨e3,XW,l3⟩:=XU (S:=S) b1 af b5 (by omega:0≤(7:Int)∧(7:Int)≤65535) (port:=port)
 have qE:=H8 gl _ e1
 have CV:=H8 gl _ e3
 have XX:=Xxd hK hac b1 af b4 af b5 (draw:=draw) XV XW
 generalize Xl ⟨17,167772161 + s,port,to,rport,9,0,0,0,0,0,kQ⟩=F1 at *
 generalize Xl ⟨17,167772161 + s,port,uZ,7,9,0,0,0,0,0,kQ⟩=F3 at *
 unfold Pk.enc kQ at qE CV
 dsimp only at qE CV
 clear e1 e3 XV XW
 obtain ⟨T1,D1,di,jq,zq⟩:=EO gl h0 S T D hK hW hP ⟨1,0,draw,F1⟩ l1
 have wG:=hK.step ⟨1,0,draw,F1⟩
 have E8:=(It hK ⟨1,0,draw,F1⟩ l1).len
 generalize S.step ⟨1,0,draw,F1⟩=x1 at *
 obtain ⟨⟨r1,r2,r3,r4⟩,S1⟩:=x1
 have bj:=di.wf
 unfold Rp.enc Ac.enc at zq
 dsimp only at zq wG di jq bj E8 XX
 refine (show FT Tryz.prog 6 Tryz.f6 (aO Tryz.prog Tryz.f6) [.t 14] from .of Tryz.func6).ps (of_decide_eq_true rfl) (by simp[Qe]) fun c hN hg=>?_
 subst hg
 conv in aO _ _=>cbv
 have q1:jN Tryz.prog c .cu [.cl 32 [],.int .i64 s0,.int .i64 8] (.int .i64 s):=E5 (caps:=[]) pk1 (by simp[ai,Qe])
 have q2:jN Tryz.prog c .cu [.cl 32 [],.int .i64 j4,.int .i64 65536] (.int .i64 port):=E5 (caps:=[]) pk2 (by simp[ai,Qe])
 have q3:jN Tryz.prog c .cu [.cl 32 [],.int .i64 gP,.int .i64 65536] (.int .i64 rport):=E5 (caps:=[]) pk3 (by simp[ai,Qe])
 have q4:jN Tryz.prog c .cu [.cl 32 [],.int .i64 vY,.int .i64 16777216] (.int .i64 to):=E5 (caps:=[]) pk4 (by simp[ai,Qe])
 have q5:jN Tryz.prog c .cu [.cl 32 [],.int .i64 (to + 1),.int .i64 16777216] (.int .i64 uZ):=E5 (caps:=[]) pk5 (by simp[ai,Qe])
 have fH:=fun n=>Wl n l
 have aH:=fun n j hj=>Ya (S:=S) hT n j hj
 have jb:=fun n j hj=>Ya (S:=S1) bj n j hj
 refine Qf ?_
 refine uE eQ (Qj hT) ?_ au ?_
 ·exact Qr @fH
 dsimp only[List.nil_append]
 rw[H9]
 refine Qf ?_
 (refine Qa (fun h9=>?_) (fun h9=>?_)<;>try exact h9.elim)
 refine Qf ?_
 refine Zg q1 ?_
 refine Zg q2 ?_
 refine Zg q3 ?_
 refine Qy q4 @aH ?_
 refine Qy qE @aH ?_
 refine Uu (v:=false) (pp:=[]) (ex:=[(70,_),(70,_)]) (s3:=⟨[(2,.int .i64 s),(3,.int .i64 port),(4,.int .i64 to),(5,.int .i64 rport),(14,.bool false),(15,.ptr 67 0),(17,.cl 32 []),(18,.ptr 70 0),(59,.agg [.int .i64 r1,.str r2,.bool r3,.str r4])],[(70,.cells [.int .i64 17,.int .i64 (167772161 + s),.int .i64 port,.int .i64 to,.int .i64 rport,.int .i64 9,.int .i64 0,.int .i64 0,.int .i64 0,.int .i64 0,.int .i64 0,.str [116,104,101,114,101]])]++Qm S1 T1,71⟩) (by rw[hN];simp) zq (Qj hT) (Qj bj) (by simp[Qe,ai]) aR au au rfl ?_ ?_ ?_
 ·exact Qr @Xw
 ·unfold Zq
  refine To.iq bj ((Qj bj).more (by simp[bG,ai,Qe])) aR aR au au au (fun b h1 h2=>?_) ?_
  ·obtain rfl:b=70:=by omega
   rfl
  ·simp[Qu,Qe,ai,look,aD,ay,qb,lw,rL]
 rcases XX with rfl|rfl|rfl|⟨rfl,ma,mp,c1,c2,c3,c4,DL⟩
 ·refine Qh @jb ?_
  (refine Qa (fun ed=>?_) (fun ed=>?_)<;>try exact ed.elim)
  exact Qr @jb
 ·refine Qh @jb ?_
  (refine Qa (fun ed=>?_) (fun ed=>?_)<;>try exact ed.elim)
  exact Qr @jb
 ·refine Qh @jb ?_
  (refine Qa (fun ed=>?_) (fun ed=>?_)<;>try exact ed.elim)
  exact Qr @jb
 have E9:=Wu c.gl r2 E8
 unfold Kt at E9
 rw[if_pos c3,c4]at E9
 obtain ⟨e2,l2⟩:=Yfo b4 (by omega:0≤rport∧rport≤65535) c1 c2
 have gY:=H8 c.gl _ e2
 obtain ⟨pE,pK⟩:=OA _ e2
 obtain ⟨⟨G,g1,g2,g3⟩,O2⟩:=DL _ pE pK
 clear DL pE pK e2 c3 c4
 generalize Xl ⟨17,to,rport,3405803777 + ma,mp,9,0,0,0,0,0,tc⟩=F2 at *
 unfold Pk.enc tc at gY
 unfold Pk.enc kQ at E9
 dsimp only at gY E9
 obtain ⟨T2,D2,lj,XY,zr⟩:=EO c.gl h0 S1 T1 D1 wG di jq ⟨2,0,0,F2⟩ l2
 have zn:=wG.step ⟨2,0,0,F2⟩
 have Fa:=(It wG ⟨2,0,0,F2⟩ l2).len
 generalize S1.step ⟨2,0,0,F2⟩=x2 at *
 obtain ⟨⟨u1,u2,u3,u4⟩,S2⟩:=x2
 simp only[Rp.mk.injEq]at g1
 obtain ⟨rfl,rfl,rfl,rfl⟩:=g1
 have jn:=lj.wf
 unfold Rp.enc Ac.enc at zr
 dsimp only at zr zn lj XY jn Fa O2
 have Fb:=Wu c.gl u2 Fa
 unfold Kt at Fb
 rw[if_pos g2,g3]at Fb
 unfold Pk.enc tc at Fb
 dsimp only at Fb
 have lP:=fun n j hj=>Ya (S:=S2) jn n j hj
 obtain ⟨T3,D3,mE,VL,zt⟩:=EO c.gl h0 S2 T2 D2 zn lj XY ⟨1,0,0,F3⟩ l3
 have Fc:=(It zn ⟨1,0,0,F3⟩ l3).len
 generalize S2.step ⟨1,0,0,F3⟩=x3 at *
 obtain ⟨⟨v1,v2,v3,v4⟩,S3⟩:=x3
 have oO:=mE.wf
 unfold Rp.enc Ac.enc at zt
 dsimp only at zt oO Fc O2
 have uo:=fun n j hj=>Ya (S:=S3) oO n j hj
 refine Qh @jb ?_
 (refine Qa (fun ed=>?_) (fun ed=>?_)<;>try exact ed.elim)
 refine Qh @jb ?_
 refine Qy E9 @jb ?_
 (refine Qa (fun iH=>?_) (fun iH=>?_)<;>try exact iH.elim)
 refine Qh @jb ?_
 refine Qy gY @jb ?_
 refine Uu (v:=false) (pp:=[]) (ex:=[(72,_),(72,_),(71,_),(71,_),(70,_)]) (s3:=⟨[(2,.int .i64 s),(3,.int .i64 port),(4,.int .i64 to),(5,.int .i64 rport),(14,.bool false),(15,.ptr 67 0),(17,.cl 32 []),(18,.ptr 70 0),(20,.ptr 72 0),(94,.agg [.int .i64 0,.str u2,.bool true,.str []])],[(72,.cells [.int .i64 17,.int .i64 (3405803777 + ma),.int .i64 mp,.int .i64 to,.int .i64 rport,.int .i64 (9 - 1),.int .i64 0,.int .i64 0,.int .i64 0,.int .i64 0,.int .i64 0,.str [116,104,101,114,101]]),(71,.cells [.int .i64 0,.str r2,.bool r3,.str r4]),(70,.cells [.int .i64 17,.int .i64 (167772161 + s),.int .i64 port,.int .i64 to,.int .i64 rport,.int .i64 9,.int .i64 0,.int .i64 0,.int .i64 0,.int .i64 0,.int .i64 0,.str [116,104,101,114,101]])]++Qm S2 T2,73⟩) (by rw[hN];simp) zr (Qj bj) (Qj jn) (by simp[Qe,ai]) aR au au rfl ?_ ?_ ?_
 ·exact Qr @Xw
 ·unfold Zq
  refine To.iq jn ((((Qj jn).more (by simp[bG,ai,Qe])).more (by simp[bG,ai,Qe])).more (by simp[bG,ai,Qe])) aR aR au au au (fun b h1 h2=>?_) ?_
  ·rcases (by omega:b=70∨b=71∨b=72) with rfl|rfl|rfl<;>rfl
  ·simp[Qu,Qe,ai,look,aD,ay,qb,lw,rL]
 refine Qh @lP ?_
 refine Qy Fb @lP ?_
 (refine Qa (fun fa=>?_) (fun fa=>?_)<;>try exact fa.elim)
 refine Qh @lP ?_
 refine Qy q5 @lP ?_
 refine Qh @lP ?_
 refine Qy CV @lP ?_
 refine Uu (v:=false) (pp:=[]) (ex:=[(70,_),(70,_),(74,_),(74,_),(73,_),(73,_),(72,_),(71,_),(70,_)]) (s3:=⟨[(14,.bool false),(20,.ptr 72 0),(153,.agg [.int .i64 v1,.str v2,.bool v3,.str v4])],[(72,.cells [.int .i64 17,.int .i64 (3405803777 + ma),.int .i64 mp,.int .i64 to,.int .i64 rport,.int .i64 (9 - 1),.int .i64 0,.int .i64 0,.int .i64 0,.int .i64 0,.int .i64 0,.str [116,104,101,114,101]]),(71,.cells [.int .i64 0,.str r2,.bool r3,.str r4]),(70,.cells [.int .i64 17,.int .i64 (167772161 + s),.int .i64 port,.int .i64 uZ,.int .i64 7,.int .i64 9,.int .i64 0,.int .i64 0,.int .i64 0,.int .i64 0,.int .i64 0,.str [116,104,101,114,101]])]++Qm S3 T3,73⟩) (by rw[hN];simp) zt (Qj jn) (Qj oO) (by simp[Qe,ai]) aR au au rfl ?_ ?_ ?_
 ·exact Qr @Xw
 ·unfold Zq
  refine To.iq oO ((((Qj oO).more (by simp[bG,ai,Qe])).more (by simp[bG,ai,Qe])).more (by simp[bG,ai,Qe])) aR aR au au au (fun b h1 h2=>?_) ?_
  ·rcases (by omega:b=70∨b=71∨b=72) with rfl|rfl|rfl<;>rfl
  ·simp[Qu,Qe,ai,look,aD,ay,qb,lw,rL]
 obtain ⟨w,e,jF,Ey,_⟩:=N0 v2
 have zu:=Wu c.gl v2 Fc
 rw[jF]at zu
 rcases O2 with rfl|⟨rfl,k1,k2,k3⟩
 ·obtain ⟨w1,w2,w3,w4,w5,w6,w7,w8,w9,w10,w11,w12⟩:=w
  unfold Pk.enc at zu
  dsimp only at zu
  refine Qh @uo ?_
  refine Qy zu @uo ?_
  (refine Qa (fun me=>?_) (fun me=>?_)<;>try exact me.elim)
  exact Qr @uo
 ·have hz:e=0∧w=az v2:=by
   unfold Kt at jF
   rw[if_pos k1]at jF
   have h1:=AV.aX.inj jF
   have h2:=(List.cons.inj h1).2
   have h3:=AV.int.inj (List.cons.inj h2).1
   exact ⟨h3.2.symm,(Ey h3.2.symm).2.1.symm⟩
  obtain ⟨rfl,rfl⟩:=hz
  generalize az v2=w at *
  obtain ⟨w1,w2,w3,w4,w5,w6,w7,w8,w9,w10,w11,w12⟩:=w
  unfold Pk.enc at zu
  dsimp only at zu k2 k3
  subst k2 k3
  refine Qh @uo ?_
  refine Qy zu @uo ?_
  (refine Qa (fun me=>?_) (fun me=>?_)<;>try exact me.elim)
  exact Qr @uo
end Go.Proofs.YtogckmommodmhaaGreatDoor
