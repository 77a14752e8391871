import Derived.Test.YtogckmommodmhaaGreatDoorZr5
namespace Go.Proofs.YtogckmommodmhaaGreatDoor
open Go.RowKit
set_option linter.all false
set_option linter.unusedSimpArgs false
set_option maxRecDepth 100000
theorem Qmq (m:Mp):Zj m.proto m.s m.inn m=true:=by simp[Zj]
theorem Qwm (m:Mp):Zw m.proto m.a m.port m=true:=by simp[Zw]
theorem Qpe {m o:Mp} (h:Zj m.proto m.s m.inn o=true):Zi o m=true:=by
 unfold Zj at h;unfold Zi
 simp at h ⊢
 exact ⟨h.1.1.symm,Or.inr ⟨h.1.2.symm,h.2.symm⟩⟩
theorem Xeh {m o:Mp} (h:Zw m.proto m.a m.port o=true):Zi o m=true:=by
 unfold Zw at h;unfold Zi
 simp at h ⊢
 exact ⟨h.1.1.symm,Or.inl ⟨h.1.2.symm,h.2.symm⟩⟩
theorem Qtu {l:List Mp} (h:l.Pairwise fun x y=>Zi x y=false) {x y:Mp} (hx:x ∈ l) (hy:y ∈ l) (hk:Zi x y=true):x=y:=by
 obtain ⟨i,hi,rfl⟩:=List.getElem_of_mem hx
 obtain ⟨j,hj,rfl⟩:=List.getElem_of_mem hy
 have hp:=List.pairwise_iff_getElem.1 h
 rcases Nat.lt_trichotomy i j with hij|rfl|hij
 ·have:=hp i j hi hj hij;rw[this]at hk;cases hk
 ·rfl
 ·have:=hp j i hj hi hij;rw[Qew,this]at hk;cases hk
theorem Quc {l:List Mp} (p:Mp→Bool) (m:Mp) (hm:m ∈ l) (hp:p m=true) (hu:∀ o ∈ l,p o=true→o=m):l.find? p=some m:=by
 cases h:l.find? p with
 | none=>exact absurd hp (by have:=List.find?_eq_none.1 h m hm;simpa using this)
 | some o=>rw[hu o (List.mem_of_find?_eq_some h) (List.find?_some h)]
theorem GT.fwd {t:Tb} (h:GT t) {m:Mp} (hm:m ∈ t.maps):t.maps.find? (Zj m.proto m.s m.inn)=some m :=
 Quc _ m hm (Qmq m) fun o ho hp=>Qtu h.apart ho hm (Qpe hp)
theorem GT.back {t:Tb} (h:GT t) {m:Mp} (hm:m ∈ t.maps):t.maps.find? (Zw m.proto m.a m.port)=some m :=
 Quc _ m hm (Qwm m) fun o ho hp=>Qtu h.apart ho hm (Xeh hp)
theorem Qij {l:List Mp} {m:Mp} (h1:l.find? (Zj m.proto m.s m.inn)=none) (h2:l.find? (Zw m.proto m.a m.port)=none):∀ o ∈ l,Zi o m=false:=by
 intro o ho
 have h1:=List.find?_eq_none.1 h1 o ho
 have h2:=List.find?_eq_none.1 h2 o ho
 cases hk:Zi o m with
 | false=>rfl
 | true =>
  exfalso
  unfold Zi at hk
  unfold Zj at h1
  unfold Zw at h2
  simp at hk h1 h2
  rcases hk with ⟨hp,⟨ha,hq⟩|⟨ha,hq⟩⟩
  ·exact h2 hp.symm ha.symm hq.symm
  ·exact h1 hp.symm ha.symm hq.symm
inductive Opened (t:Tb) (proto:Int) (S:Nat) (inn:Int):Tb × Mp × Bool × Int→Prop
 | no (e:Int) (he:e≠0):Opened t proto S inn (t,mp0,false,e)
 | old (m:Mp) (hf:t.maps.find? (Zj proto S inn)=some m):Opened t proto S inn (t,m,false,0)
 | own (port:Int) (hf:t.maps.find? (Zj proto S inn)=none) (hok:Qb4 t ⟨proto,S,inn,t.hom S - 1,port⟩) (hb:t.maps.find? (Zw proto (t.hom S - 1) port)=none) (hn:Zm t.maps S < 12) :
   Opened t proto S inn (t.add ⟨proto,S,inn,t.hom S - 1,port⟩,⟨proto,S,inn,t.hom S - 1,port⟩,false,0)
 | new (b k:Nat) (hf:t.maps.find? (Zj proto S inn)=none) (hb:b < 3) (hk:k < 6) (hz:t.pool.ow b k=0) (hh:t.hom S=0∨t.hom S=b + 1) (hc:Jj t.pool.own S≤1) (hd:t.pool.dra b=false) (hn:Zm t.maps S < 12) :
   Opened t proto S inn ((⟨t.pool.put b k (S + 1),t.home.set S (b + 1),t.maps⟩:Tb).add ⟨proto,S,inn,b,1024 + (k:Int) * 8⟩,⟨proto,S,inn,b,1024 + (k:Int) * 8⟩,true,0)
theorem Qli {q i:Nat} (hq:q < 6) (hi:i < 8):Jp (1024 + (q:Int) * 8 + i)=true∧Xr (1024 + (q:Int) * 8 + i)=q:=by
 have h:Jp (1024 + (q:Int) * 8 + i)=true:=by unfold Jp;simp;omega
 refine ⟨h,?_⟩
 unfold Xr
 rw[if_pos h];omega
theorem Qq7 {t:Tb} (h:GT t) (hw:t.wf) {proto:Int} {S:Nat} {inn:Int} (hf:t.maps.find? (Zj proto S inn)=none) (hn:Zm t.maps S < 12) (a draw:Int) (hh:t.hom S=0∨t.hom S=a + 1) (hc:Jj t.pool.own S≤1):Opened t proto S inn (t.tk proto S inn a draw):=by
 have htk:=Xah t.pool hw.pool S a draw
 unfold Tb.tk
 generalize t.pool.take S a draw=x at *
 cases htk with
 | no e he=>rw[if_pos he];exact .no e he
 | yes b k ha hb hk _ _ _ hd _ ho =>
  rw[if_neg Zsi]
  subst ha
  exact .new b k hf hb hk ho Zom hc hd hn
theorem opened {t:Tb} (h:GT t) (hw:t.wf) {proto:Int} {S:Nat} {inn:Int} (hkn:Zy proto S inn=true) (draw:Int):Opened t proto S inn (t.opn proto S inn draw):=by
 have hgb:¬ (Wa t=false∨Zy proto S inn=false):=by
  rw[(Qct t).2 (Wp.2 h),hkn];simp
 obtain ⟨_,⟨_,hS8⟩,_⟩:=Kx hkn
 unfold Tb.opn
 rw[if_neg hgb]
 cases hf:t.maps.find? (Zj proto S inn) with
 | some m=>exact .old m hf
 | none =>
  dsimp only
  split
  ·exact .no 6 Zde
  rename_i hn
  have hn:Zm t.maps S < 12:=by omega
  rw[Int.toNat_natCast]
  cases hff:Qba t proto (t.hom S - 1) (Qa0 t S) with
  | some port =>
   dsimp only
   unfold Qba at hff
   have hm:=List.mem_of_find?_eq_some hff
   have hfr:=List.find?_some hff
   obtain ⟨q,hq,hp⟩:=List.mem_flatMap.1 hm
   have h1:1≤t.hom S:=by
    rcases Int.lt_or_le (t.hom S) 1 with h2|h2
    ·have e:Qa0 t S=[]:=if_neg Zom
     rw[e]at hq;cases hq
    ·exact h2
   have e:Qa0 t S=Kp t S 6:=if_pos h1
   rw[e]at hq
   unfold Kp at hq
   obtain ⟨hq6,hqo⟩:=List.mem_filter.1 hq
   have hq6:=List.mem_range.1 hq6
   unfold Wn at hp
   obtain ⟨i,hi,rfl⟩:=List.mem_map.1 hp
   have hi:=List.mem_range.1 hi
   obtain ⟨b1,b2⟩:=Qli hq6 hi
   have h3:=(h.homeOk S)
   have hho:t.pool.ow (t.hom S - 1).toNat q=(S:Int) + 1:=by simpa using hqo
   have h3:t.hom S≤3:=by
    obtain ⟨x,hx⟩:=List.exists_mem_of_ne_nil _ (show Qa0 t S≠[] by rw[e];intro h0;unfold Kp at h0;rw[h0]at hq;cases hq)
    have hcp:0 < Jj t.pool.own S:=by
     rw[Qhf (h.homeOk S) hw,List.length_pos_iff];intro h0;rw[h0]at hx;cases hx
    unfold Jj at hcp
    obtain ⟨o,ho,he⟩:=List.countP_pos_iff.1 hcp
    obtain ⟨j,hj,rfl⟩:=List.getElem_of_mem ho
    have hj18:j < 18:=by have:=hw.pool.own;omega
    exact (h.homeOk S j hj18 (by rw[List.getD_eq_getElem?_getD,List.getElem?_eq_getElem hj];simpa using he)).2.2
   refine .own _ hf ⟨⟨hkn,b1,by show 0≤t.hom S - 1;omega,by show t.hom S - 1 < 3;omega⟩,?_,?_⟩ ?_ hn
   ·show t.hom (S:Int).toNat=t.hom S - 1 + 1
    rw[Int.toNat_natCast];omega
   ·show t.pool.ow (t.hom S - 1).toNat (Xr _).toNat=(S:Int) + 1
    rw[b2,Int.toNat_natCast];exact hho
   ·unfold Qhn at hfr
    simpa using hfr
  | none =>
   dsimp only
   split
   ·exact .no 6 Zde
   rename_i h2
   have hc:Jj t.pool.own S≤1:=by rw[Qhf (h.homeOk S) hw];omega
   split
   ·rename_i h1
    exact Qq7 h hw hf hn _ draw Zom hc
   ·rename_i h1
    have h0:t.hom S=0:=by
     have:=Tb.hom_bd (Wp.2 h) hw (s:=S) Zom
     omega
    split
    ·rename_i hp
     exact .no _ hp
    ·exact Qq7 h hw hf hn _ draw (.inl h0) hc
theorem Opened.good {t:Tb} (h:GT t) (hw:t.wf) {proto:Int} {S:Nat} {inn:Int} (hkn:Zy proto S inn=true) {x:Tb × Mp × Bool × Int} (ho:Opened t proto S inn x):GT x.1:=by
 obtain ⟨_,⟨_,hS8⟩,_⟩:=Kx hkn
 cases ho with
 | no e he=>exact h
 | old m hf=>exact h
 | own port hf hok hb hn=>exact h.add hok (Qij hf hb) hn
 | new b k hf hb hk hz hh hc hd hn =>
  obtain ⟨b1,b2⟩:=Qli (i:=0) hk Zom
  rw[show (1024 + (k:Int) * 8 + (0:Nat))=1024 + (k:Int) * 8 by omega]at b1 b2
  refine h.take hw hb hk Zom hz hh hc rfl rfl (by show (Xr (1024 + (k:Int) * 8)).toNat=k;rw[b2];omega) ⟨hkn,b1,by show 0≤(b:Int);omega,by show (b:Int) < 3;omega⟩ (Qij hf ?_) hn
  rw[List.find?_eq_none]
  intro o ho' hp
  unfold Zw at hp
  simp at hp
  have hok:=h.maps o ho'
  have:Yy o=b * 6 + k:=by
   unfold Yy;rw[hp.1.2,hp.2,b2];omega
  exact (h.used _ Zom).2 ⟨o,ho',this⟩ hz
theorem Opened.wf {t:Tb} (hw:t.wf) {proto:Int} {S:Nat} {inn:Int} {x:Tb × Mp × Bool × Int} (ho:Opened t proto S inn x):x.1.wf:=by
 cases ho with
 | no e he=>exact hw
 | old m hf=>exact hw
 | own port hf hok hb hn=>exact ⟨hw.pool,hw.home⟩
 | new b k hf hb hk hz hh hc hd hn=>exact ⟨Pool.put_wf _ hw.pool _ _ _,by show (t.home.set _ _).length=8;rw[List.length_set];exact hw.home⟩
theorem GT.ok {t:Tb} (h:GT t) (hw:t.wf):t.ok:=by
 refine ⟨hw,fun m hm=>?_,by have:=Qbw (Wp.2 h);omega⟩
 have hok:=h.maps m hm
 obtain ⟨h1,h2,h3⟩:=Kx hok.1.1
 have h4:=hok.1.2
 have h5:=h4.1
 unfold Jp at h5
 simp only[Bool.and_eq_true,decide_eq_true_eq]at h5
 unfold MpB
 refine ⟨?_,?_,?_,?_,?_⟩<;>omega
theorem Qi7 {t:Tb} {m o:Mp} (hm:Qfz t m) (ho:Qfz t o):Qbp m o=true ↔ Yy o=Yy m:=by
 rw[Xuw ho.2.2.1 hm.2.2.1]
 unfold Qbp
 simp
theorem Qrw {p:Pool} (hg:p.good=true) {s:Int} {b k:Nat} (hb:b < 3) (hk:k < 6) (hs:0≤s) (ho:p.ow b k=s + 1):p.give s b k=(p.put b k 0,0):=by
 unfold Pool.give
 rw[if_pos hg,if_pos]
 ·simp
 ·have ha:Kr (b:Int)=true:=by unfold Kr;simp;omega
  exact ⟨ha,by omega,by omega,hs,by simpa using ho⟩
theorem GT.give {t:Tb} (h:GT t) (hw:t.wf) {i:Nat} (hi:i < t.maps.length) (hno:(t.maps.eraseIdx i).any (Qbp t.maps[i])=false):GT ((t.del i).give t.maps[i])∧((t.del i).give t.maps[i]).wf∧((t.del i).give t.maps[i]).maps=t.maps.eraseIdx i:=by
 have hm:=List.getElem_mem hi
 have hsub:∀ o ∈ t.maps.eraseIdx i,o ∈ t.maps:=fun o ho=>List.mem_of_mem_eraseIdx ho
 have hok:=h.maps _ hm
 have hs8:=Qdp hok
 have hbl:=Qh4 t.maps[i].port
 have hixl:=Qol hok.1
 have hno':∀ o ∈ t.maps.eraseIdx i,Yy o≠Yy t.maps[i]:=fun o ho he=>by
  have h1:=List.any_eq_false.1 hno o ho
  exact h1 ((Qi7 hok.1 (h.maps o (hsub o ho)).1).2 he)
 have hel:∀ o ∈ t.maps,o≠t.maps[i]→o ∈ t.maps.eraseIdx i:=fun o ho hne=>by
  obtain ⟨n,hn,rfl⟩:=List.getElem_of_mem ho
  exact List.mem_eraseIdx_iff_getElem.2 ⟨n,hn,fun e=>hne (by subst e;rfl),rfl⟩
 generalize t.maps[i]=m at *
 obtain ⟨A,hA⟩:=Int.eq_ofNat_of_zero_le hok.1.2.2.1
 obtain ⟨K,hK⟩:=Int.eq_ofNat_of_zero_le hbl.1
 obtain ⟨S,hS⟩:=Int.eq_ofNat_of_zero_le hs8.1
 have hA3:A < 3:=by have:=hok.1.2.2.2;omega
 have how:=hok.2.2
 rw[hA,hK,Int.toNat_natCast,Int.toNat_natCast]at how
 have hgv:t.pool.give m.s m.a (Xr m.port)=(t.pool.put A K 0,0):=by
  rw[hA,hK];exact Qrw h.pool hA3 Zom hs8.1 how
 have hix:Yy m=A * 6 + K:=by unfold Yy;rw[hA,hK];simp
 have hho:=hok.2.1
 rw[hS,Int.toNat_natCast]at hho
 have hl:A * 6 + K < t.pool.own.length:=by rw[hw.pool.own];omega
 have hlh:S < t.home.length:=by rw[hw.home];omega
 have how':t.pool.own.getD (A * 6 + K) 0=(S:Int) + 1:=by rw[hS]at how;exact how
 have hget:∀ j,(t.pool.own.set (A * 6 + K) 0).getD j 0=if j=A * 6 + K then 0 else t.pool.own.getD j 0:=fun j=>Uv hl _ _
 have hpw:(t.pool.put A K 0).wf:=Pool.put_wf _ hw.pool _ _ _
 have hcs:∀ s,Jj (t.pool.own.set (A * 6 + K) 0) s=Jj t.pool.own s - if s=S then 1 else 0:=fun s=>by
  rw[Qoq hl,how',if_neg (show ¬ (0:Int)=(s:Int) + 1 by omega)]
  by_cases e:s=S
  ·subst e;simp
  ·rw[if_neg Zom,if_neg e];rfl
 have hpos:=Qoa hl how'
 have hH:_root_.Go.Proofs.YtogckmommodmhaaGreatDoor.homeOk ⟨t.pool.put A K 0,t.home,t.maps.eraseIdx i⟩ S:=fun j hj hoj=>by
  have hoj:(t.pool.own.set (A * 6 + K) 0).getD j 0=(S:Int) + 1:=hoj
  rw[hget]at hoj
  split at hoj
  ·omega
  ·exact h.homeOk S j hj hoj
 have hcn:=Qhf hH ⟨hpw,hw.home⟩
 have hcn:Jj (t.pool.own.set (A * 6 + K) 0) S=(Qa0 ⟨t.pool.put A K 0,t.home,t.maps.eraseIdx i⟩ S).length:=hcn
 have hnm:(t.maps.eraseIdx i).any (fun o=>decide (o.s=(S:Int)))=true→Jj (t.pool.own.set (A * 6 + K) 0) S≠0:=fun ha=>by
  obtain ⟨o,ho,he⟩:=List.any_eq_true.1 ha
  have he:o.s=(S:Int):=by simpa using he
  have hoo:=h.maps o (hsub o ho)
  have h1:=hoo.2.2
  rw[Qna,he]at h1
  have h2:=hno' o ho
  have h3:(t.pool.own.set (A * 6 + K) 0).getD (Yy o) 0=(S:Int) + 1:=by rw[hget,if_neg (by rw[← hix];exact h2)];exact h1
  have:=Qoa (by rw[List.length_set,hw.pool.own];exact Qol hoo.1) h3
  omega
 -- what holds whatever the homes
 have key:∀ H:List Int,H.length=8→(∀ s,s < 8→s≠S→H.getD s 0=t.hom s)→(H.getD S 0=if Jj (t.pool.own.set (A * 6 + K) 0) S=0 then 0 else t.hom S)→GT ⟨t.pool.put A K 0,H,t.maps.eraseIdx i⟩:=by
  intro H hHl hH1 hH2
  refine ⟨Qjj h.pool _ _ Zom,fun o ho=>?_,h.apart.sublist (List.eraseIdx_sublist _ _),fun j hj=>?_,fun s hs=>?_,fun s hs=>?_,fun s hs=>?_⟩
  ·have hoo:=h.maps o (hsub o ho)
   have hso:=Qdp hoo
   refine ⟨hoo.1,?_,?_⟩
   ·show H.getD o.s.toNat 0=o.a + 1
    by_cases e:o.s=(S:Int)
    ·have hz:=hnm (List.any_eq_true.2 ⟨o,ho,by simp[e]⟩)
     rw[e,Int.toNat_natCast,hH2,if_neg hz]
     have:=hoo.2.1;rw[e,Int.toNat_natCast]at this;exact this
    ·rw[hH1 _ Zom Zom];exact hoo.2.1
   ·show (t.pool.own.set (A * 6 + K) 0).getD (Yy o) 0=o.s + 1
    rw[hget,if_neg (by rw[← hix];exact hno' o ho)];exact hoo.2.2
  ·show (t.pool.own.set (A * 6 + K) 0).getD j 0≠0 ↔ ∃ o ∈ t.maps.eraseIdx i,Yy o=j
   rw[hget]
   by_cases e:j=A * 6 + K
   ·rw[if_pos e]
    refine ⟨fun h0=>(h0 rfl).elim,fun ⟨o,ho,he⟩=>?_⟩
    exact (hno' o ho (by rw[he,hix,e])).elim
   ·rw[if_neg e]
    refine (h.used j hj).trans ⟨fun ⟨o,ho,he⟩=>⟨o,hel o ho (fun q=>e (by rw[← he,q,hix])),he⟩,fun ⟨o,ho,he⟩=>⟨o,hsub o ho,he⟩⟩
  ·show Jj (t.pool.own.set (A * 6 + K) 0) s≤2
   rw[hcs];have:=h.two s hs;omega
  ·exact Nat.le_trans (List.Sublist.countP_le (List.eraseIdx_sublist _ _)) (h.many s hs)
  ·show H.getD s 0≠0 ↔ 0 < Jj (t.pool.own.set (A * 6 + K) 0) s
   by_cases e:s=S
   ·subst e
    rw[hH2]
    have:=hok.1.2.2.1
    split<;>omega
   ·rw[hH1 s hs e,hcs,if_neg e]
    exact h.home s hs
 unfold Tb.give
 have e1:(t.del i).pool=t.pool:=rfl
 have e2:(t.del i).home=t.home:=rfl
 have e3:(t.del i).maps=t.maps.eraseIdx i:=rfl
 rw[e1,e2,e3,hgv,hS,Int.toNat_natCast]
 dsimp only
 split
 ·rename_i h0
  rw[h0]at hcn
  refine ⟨key _ (by rw[List.length_set];exact hw.home) (fun s _ hne=>?_) ?_,⟨hpw,by show (t.home.set _ _).length=8;rw[List.length_set];exact hw.home⟩,rfl⟩
  ·rw[Uv hlh,if_neg hne];rfl
  ·rw[Uv hlh,if_pos rfl,if_pos (by simpa using hcn)]
 ·rename_i h0
  refine ⟨key _ hw.home (fun s _ _=>rfl) ?_,⟨hpw,hw.home⟩,rfl⟩
  rw[if_neg]
  ·rfl
  ·rw[hcn];intro h1;exact h0 (List.eq_nil_of_length_eq_zero h1)
theorem GT.cls {t:Tb} (h:GT t) (hw:t.wf) {m:Mp} (hm:m ∈ t.maps):∃ i,i < t.maps.length∧t.maps[i]?=some m∧GT (t.cls m).1∧(t.cls m).1.wf∧(t.cls m).1.maps=t.maps.eraseIdx i∧(t.cls m).2.2=0:=by
 have hg:¬ Wa t=false:=by rw[(Qct t).2 (Wp.2 h)];simp
 unfold Tb.cls
 rw[if_neg hg]
 cases hf:t.maps.findIdx? (fun x=>decide (m=x)) with
 | none =>
  have:=List.findIdx?_eq_none_iff.1 hf m hm
  simp at this
 | some i =>
  obtain ⟨hi,he⟩:=Qzf hf
  refine ⟨i,hi,by rw[List.getElem?_eq_getElem hi,he],?_⟩
  dsimp only
  split
  ·rename_i ha
   obtain ⟨o,ho,hso⟩:=List.any_eq_true.1 ha
   have:=h.del hi ⟨o,ho,by rw[he];exact (Qi7 (h.maps m hm).1 (h.maps o (List.mem_of_mem_eraseIdx ho)).1).1 hso⟩
   exact ⟨this,⟨hw.pool,hw.home⟩,rfl,rfl⟩
  ·rename_i ha
   have:=h.give hw hi (by rw[he];simpa using ha)
   rw[he]at this
   exact ⟨this.1,this.2.1,this.2.2,rfl⟩
theorem round {t:Tb} (h:GT t) (hw:t.wf) {proto:Int} {S:Nat} {inn:Int} (hkn:Zy proto S inn=true) {x:Tb × Mp × Bool × Int} (ho:Opened t proto S inn x) (hf:t.maps.find? (Zj proto S inn)=none) (he:x.2.2.2=0) :
  x.1.cls x.2.1=(t,x.2.2.1,0):=by
 have hgx:=ho.good h hw hkn
 obtain ⟨_,⟨_,hS8⟩,_⟩:=Kx hkn
 have last:∀ (T:Tb) (m:Mp),GT (T.add m)→(∀ o ∈ T.maps,Zi o m=false)→(T.add m).cls m=if T.maps.any (Qbp m)=true then (T,false,0) else (T.give m,true,0):=by
  intro T m hg hk
  unfold Tb.cls
  rw[if_neg (by rw[(Qct _).2 (Wp.2 hg)];simp)]
  have e1:(T.add m).maps.findIdx? (fun x=>decide (m=x))=some T.maps.length:=by
   show (T.maps++[m]).findIdx? _=_
   rw[List.findIdx?_append]
   have:T.maps.findIdx? (fun x=>decide (m=x))=none:=by
    rw[List.findIdx?_eq_none_iff]
    intro o ho
    have:=Xec (hk o ho)
    simp;exact fun e=>this e.symm
   rw[this];simp
  have e2:(T.add m).maps.eraseIdx T.maps.length=T.maps:=by
   show (T.maps++[m]).eraseIdx T.maps.length=_
   rw[List.eraseIdx_append_of_length_le (Nat.le_refl _)];simp
  have e3:(T.add m).del T.maps.length=T:=by unfold Tb.del;rw[e2];rfl
  rw[e1]
  dsimp only
  rw[e2,e3]
 cases ho with
 | no e he'=>exact (he' he).elim
 | old m hf'=>rw[hf]at hf';cases hf'
 | own port hf' hok hb hn =>
  dsimp only at hgx ⊢
  rw[last t _ hgx (Qij hf hb),if_pos]
  have h1:t.pool.own.getD (Yy ⟨proto,S,inn,t.hom S - 1,port⟩) 0≠0:=by
   rw[← Qna t,hok.2.2];show (S:Int) + 1≠0;omega
  obtain ⟨o,ho,he⟩:=(h.used _ (Qol hok.1)).1 h1
  exact List.any_eq_true.2 ⟨o,ho,(Qi7 hok.1 (h.maps o ho).1).2 he⟩
 | new b k hf' hb hk hz hh hc hd hn =>
  dsimp only at hgx ⊢
  obtain ⟨b1,b2⟩:=Qli (i:=0) hk Zom
  rw[show (1024 + (k:Int) * 8 + (0:Nat))=1024 + (k:Int) * 8 by omega]at b1 b2
  have hpre:Qfz t ⟨proto,S,inn,b,1024 + (k:Int) * 8⟩:=⟨hkn,b1,by show 0≤(b:Int);omega,by show (b:Int) < 3;omega⟩
  have hix:Yy ⟨proto,S,inn,b,1024 + (k:Int) * 8⟩=b * 6 + k:=by
   unfold Yy;rw[b2];simp
  have hnob:∀ o ∈ t.maps,Yy o≠b * 6 + k:=fun o ho he=>(h.used _ Zom).2 ⟨o,ho,he⟩ hz
  have hkl:∀ o ∈ t.maps,Zi o ⟨proto,S,inn,b,1024 + (k:Int) * 8⟩=false:=by
   refine Qij hf ?_
   rw[List.find?_eq_none]
   intro o ho' hp
   unfold Zw at hp
   simp at hp
   refine hnob o ho' ?_
   unfold Yy;rw[hp.1.2,hp.2,b2];omega
  have hl:b * 6 + k < t.pool.own.length:=by rw[hw.pool.own];omega
  have hz':t.pool.own.getD (b * 6 + k) 0=0:=hz
  rw[last _ _ hgx hkl,if_neg]
  ·have hpb:(t.pool.put b k ((S:Int) + 1)).put b k 0=t.pool:=by
    unfold Pool.put
    dsimp only
    rw[List.set_set]
    have:t.pool.own.set (b * 6 + k) 0=t.pool.own:=by
     have e:t.pool.own[b * 6 + k]=0:=by rw[List.getD_eq_getElem?_getD,List.getElem?_eq_getElem hl]at hz';exact hz'
     rw[← e,List.set_getElem_self]
    rw[this]
   have hgv:(t.pool.put b k ((S:Int) + 1)).give S b k=(t.pool,0):=by
    rw[Qrw (Qjj h.pool _ _ Zom) hb hk Zom,hpb]
    show (t.pool.own.set (b * 6 + k) ((S:Int) + 1)).getD (b * 6 + k) 0=_
    rw[Uv hl,if_pos rfl]
   unfold Tb.give
   dsimp only
   rw[b2,hgv,Int.toNat_natCast]
   dsimp only
   have hlh:S < t.home.length:=by rw[hw.home];omega
   have hho:(⟨t.pool,t.home.set S ((b:Int) + 1),t.maps⟩:Tb).hom S=b + 1:=by
    show (t.home.set S ((b:Int) + 1)).getD S 0=_
    rw[Uv hlh,if_pos rfl]
   have hcz:=Qhf (h.homeOk S) hw
   rcases hh with hh|hh
   ·have hc0:Jj t.pool.own S=0:=by
     have:=h.home S Zom
     rcases Nat.eq_zero_or_pos (Jj t.pool.own S) with h0|h0
     ·exact h0
     ·exact (this.2 h0 hh).elim
    rw[if_pos]
    ·rw[List.set_set]
     have:t.home.set S 0=t.home:=by
      have e:t.home[S]=0:=by
       unfold Tb.hom at hh
       rw[List.getD_eq_getElem?_getD,List.getElem?_eq_getElem hlh]at hh;exact hh
      rw[← e,List.set_getElem_self]
     rw[this]
    ·have hHn:homeOk ⟨t.pool,t.home.set S ((b:Int) + 1),t.maps⟩ S:=fun j hj hoj=>by
      exfalso
      have:=Qoa (s:=S) (by have:=hw.pool.own;omega:j < t.pool.own.length) hoj
      omega
     have:=Qhf hHn ⟨hw.pool,by show (t.home.set _ _).length=8;rw[List.length_set];exact hw.home⟩
     have e:(Qa0 ⟨t.pool,t.home.set S ((b:Int) + 1),t.maps⟩ S).length=0:=by rw[← this];exact hc0
     exact List.eq_nil_of_length_eq_zero e
   ·have hsame:t.home.set S ((b:Int) + 1)=t.home:=by
     have e:t.home[S]=(b:Int) + 1:=by
      unfold Tb.hom at hh
      rw[List.getD_eq_getElem?_getD,List.getElem?_eq_getElem hlh]at hh;exact hh
     rw[← e,List.set_getElem_self]
    rw[hsame,if_neg]
    intro h0
    rw[h0]at hcz
    have:=(h.home S Zom).1 Zom
    simp at hcz;omega
  ·rw[Bool.not_eq_true,List.any_eq_false]
   intro o ho hs
   exact hnob o ho (by rw[(Qi7 hpre (h.maps o ho).1).1 hs,hix])
def Qeu (x n:Int):Int:=x % n
theorem Qks (x:Int) {n:Int} (h:0 < n):0≤Qeu x n∧Qeu x n < n:=⟨Int.emod_nonneg x (by omega),Int.emod_lt_of_pos x h⟩
theorem Xnp:Um Tryz.prog 100 35=some Pool.ks:=by kernel_rfl
theorem Xlm {c:Cx} {ne:Bool} (p:Pool) (h:p.wf):Qae Tryz.prog c (.cA ne 35) [.agg p.enc,.agg p.enc] (.bool (ne != true)) :=
 Qjb Xnp (by kernel_rfl) (by kernel_rfl) (Pool.enc_kinds h) (Pool.enc_kinds h) Zsi
theorem Xi8:Um Tryz.prog 100 36=some (List.replicate 8 (.int .i64)):=by kernel_rfl
theorem Qnh {l:List Int} (h:l.length=8):(Qp l).map Yx=(List.replicate 8 (SK.int .i64)).map some:=by
 rw[← h];apply List.ext_getElem<;>simp[Qp,Yx]
theorem Xky {c:Cx} {ne:Bool} (l:List Int) (h:l.length=8):Qae Tryz.prog c (.cA ne 36) [.agg (Qp l),.agg (Qp l)] (.bool (ne != true)) :=
 Qjb Xi8 (by kernel_rfl) (by kernel_rfl) (Qnh h) (Qnh h) Zsi
theorem Tb.enc_homes {t:Tb} (h:t.wf):(t.enc.drop 21).take 8=Qp t.home:=by
 unfold Tb.enc Tb.hd
 rw[List.append_assoc,← Pool.enc_len h.pool,List.drop_left,List.take_append_of_le_length (by rw[Xw,h.home];decide),List.take_of_length_le (by rw[Xw,h.home];decide)]
def Xbf:Pool:=⟨List.replicate 18 0,List.replicate 3 false⟩
def tb0:Tb:=⟨Xbf,List.replicate 8 0,[]⟩
theorem Xot:Xbf.wf:=⟨rfl,rfl⟩
theorem Xxo:tb0.wf:=⟨Xot,rfl⟩
theorem Xzm (n i:Nat):(List.replicate n (0:Int)).getD i 0=0:=Qfh n i
theorem GT.none {p:Pool} (h:p.good=true) (ho:∀ i,p.own.getD i 0=0) {H:List Int} (hH:∀ i,H.getD i 0=0) (hc:∀ s,Jj p.own s=0):GT ⟨p,H,[]⟩:=by
 refine ⟨h,fun m hm=>(by cases hm),List.Pairwise.nil,fun i _=>⟨fun h=>(h (ho i)).elim,fun ⟨m,hm,_⟩=>(by cases hm)⟩,fun s _=>(by show Jj p.own s≤2;rw[hc];omega),fun s _=>Nat.zero_le _,fun s _=>⟨fun h=>(h (hH s)).elim,fun h=>?_⟩⟩
 have h:0 < Jj p.own s:=h
 rw[hc]at h;omega
theorem Xzg:GT tb0:=GT.none (by decide) (fun i=>Xzm 18 i) (fun i=>Xzm 8 i) fun s=>by
 unfold Jj Xbf
 rw[List.countP_eq_zero]
 intro o ho
 rw[(List.mem_replicate.1 ho).2]
 simp;omega
theorem Opened.has {t:Tb} {proto:Int} {S:Nat} {inn:Int} {x:Tb × Mp × Bool × Int} (h:Opened t proto S inn x) (he:x.2.2.2=0):x.2.1 ∈ x.1.maps∧x.2.1.proto=proto∧x.2.1.s=S∧x.2.1.inn=inn∧(x.2.2.1=true→∃ b,b < 3∧x.2.1.a=(b:Nat)∧t.pool.dra b=false):=by
 cases h with
 | no e he'=>exact (he' he).elim
 | old m hf =>
  have:=List.find?_some hf
  unfold Zj at this
  simp at this
  exact ⟨List.mem_of_find?_eq_some hf,this.1.1,this.1.2,this.2,fun h=>by cases h⟩
 | own port hf hok hb hn=>exact ⟨List.mem_append_right _ (List.mem_singleton.2 rfl),rfl,rfl,rfl,fun h=>by cases h⟩
 | new b k hf hb hk hz hh hc hd hn=>exact ⟨List.mem_append_right _ (List.mem_singleton.2 rfl),rfl,rfl,rfl,fun _=>⟨b,hb,rfl,hd⟩⟩
theorem Yba {t:Tb} (h:GT t) {i:Nat} {m:Mp} (hi:t.maps[i]?=some m):(t.maps.eraseIdx i).find? (Zj m.proto m.s m.inn)=none:=by
 rw[List.find?_eq_none]
 intro o ho hp
 obtain ⟨n,hn,hne,rfl⟩:=List.mem_eraseIdx_iff_getElem.1 ho
 obtain ⟨hi2,he⟩:=List.getElem?_eq_some_iff.1 hi
 have hk:=Qpe hp
 have hp:=List.pairwise_iff_getElem.1 h.apart
 rcases Nat.lt_or_gt_of_ne hne with h1|h1
 ·have:=hp n i hn hi2 h1;rw[he]at this;rw[this]at hk;cases hk
 ·have:=hp i n hi2 hn h1;rw[he,Qew]at this;rw[this]at hk;cases hk
theorem GT.drain {t:Tb} (h:GT t) (a:Int) (to:Bool):GT ⟨(t.pool.drain a to).1,t.home,t.maps⟩:=by
 have ho:(t.pool.drain a to).1.own=t.pool.own:=by
  unfold Pool.drain
  split
  ·split<;>rfl
  ·rfl
 have how:∀ a' k,(t.pool.drain a to).1.ow a' k=t.pool.ow a' k:=fun a' k=>by unfold Pool.ow;rw[ho]
 refine ⟨?_,fun m hm=>?_,h.apart,fun i hi=>?_,fun s hs=>?_,h.many,fun s hs=>?_⟩
 ·unfold Pool.good;rw[ho];exact h.pool
 ·have:=h.maps m hm
  exact ⟨this.1,this.2.1,by show (t.pool.drain a to).1.ow _ _=_;rw[how];exact this.2.2⟩
 ·show (t.pool.drain a to).1.own.getD i 0≠0 ↔ _
  rw[ho];exact h.used i hi
 ·show Jj (t.pool.drain a to).1.own s≤2
  rw[ho];exact h.two s hs
 ·show _ ↔ 0 < Jj (t.pool.drain a to).1.own s
  rw[ho];exact h.home s hs
def Qjp:List AV:=[.int .i64 1,.int .i64 6,.int .i64 17]
theorem Xle (n:Nat):nmAll n Qjp=True:=by simp[Qjp,nmAll,Qe]
theorem Qy1 (ρ:Nat→Nat):rens ρ Qjp=Qjp:=by simp[Qjp,rens,ren]
attribute [go_sem] Xle Qy1
def Yac (p q:Int × Fl):Prop:=p.2.map=q.2.map∧p.2.rem=q.2.rem∧p.2.rport=q.2.rport
structure NJ (S:NS):Prop where
 gt:GT S.tb
 wf:S.tb.wf
 ids:∀ q ∈ S.fl,1≤q.1∧q.1≤S.nxt
 dis:S.fl.Pairwise fun p q=>p.1≠q.1
 len:S.fl.length≤48
 inm:∀ q ∈ S.fl,q.2.map ∈ S.tb.maps
 has:∀ m ∈ S.tb.maps,∃ q ∈ S.fl,q.2.map=m
 uni:S.fl.Pairwise fun p q=>¬ Yac p q
 now:S.now≤549755813888
 nx0:0≤S.nxt
 ref:S.ref≤4
structure NI (S:NS):Prop extends NJ S where
 due:∀ q ∈ S.fl,(S.now:Int) < q.2.due∧q.2.due≤S.now + 60
theorem NJ.ok {S:NS} (h:NJ S):S.tb.ok:=h.gt.ok h.wf
theorem Qkf (p s:Int):4≤Ju p s∧Ju p s≤60:=by
 unfold Ju
 (repeat' split)<;>omega
theorem Qsw (proto st sd du fl:Int) (inw:Bool) {now:Int} (h0:0≤now) (h1:now≤549755813888):(Qbr proto st sd du fl inw now).2.2=du∨∃ d,4≤d∧d≤60∧(Qbr proto st sd du fl inw now).2.2=now + d:=by
 have key:∀ x:Int × Int × Bool,(if x.2.2=true then IntKind.i64.wrap (now + Ju proto x.1) else du)=du∨∃ d,4≤d∧d≤60∧(if x.2.2=true then IntKind.i64.wrap (now + Ju proto x.1) else du)=now + d:=fun x=>by
  split
  ·right
   have:=Qkf proto x.1
   refine ⟨Ju proto x.1,this.1,this.2,?_⟩
   rw[IntKind.wrap_i64]
   omega
  ·exact .inl rfl
 exact key _
theorem NJ.begin {S:NS} (h:NJ S) {tb:Tb} (hg:GT tb) (hw:tb.wf) (hsub:∀ m ∈ S.tb.maps,m ∈ tb.maps) {f:Fl} (hnew:∀ m ∈ tb.maps,m ∈ S.tb.maps∨m=f.map) (hin:f.map ∈ tb.maps) (hno:∀ q ∈ S.fl,¬ (q.2.map=f.map∧q.2.rem=f.rem∧q.2.rport=f.rport)) (hl:S.fl.length < 48):NJ (({ S with tb:=tb }:NS).begin f) where
 gt:=hg
 wf:=hw
 ids q hq:=by
  have h0:=h.nx0
  rcases List.mem_append.1 hq with hq|hq
  ·have:=h.ids q hq
   show _∧q.1≤S.nxt + 1
   omega
  ·obtain rfl:=List.mem_singleton.1 hq
   show 1≤S.nxt + 1∧S.nxt + 1≤S.nxt + 1
   omega
 dis:=by
  refine List.pairwise_append.2 ⟨h.dis,by simp,fun p hp q hq=>?_⟩
  obtain rfl:=List.mem_singleton.1 hq
  have:=h.ids p hp
  show p.1≠S.nxt + 1
  omega
 len:=by
  show (S.fl++[_]).length≤48
  rw[List.length_append];simp;omega
 inm q hq:=by
  rcases List.mem_append.1 hq with hq|hq
  ·exact hsub _ (h.inm q hq)
  ·obtain rfl:=List.mem_singleton.1 hq;exact hin
 has m hm:=by
  rcases hnew m hm with h1|rfl
  ·obtain ⟨q,hq,e⟩:=h.has m h1
   exact ⟨q,List.mem_append_left _ hq,e⟩
  ·exact ⟨_,List.mem_append_right _ (List.mem_singleton.2 rfl),rfl⟩
 uni:=by
  refine List.pairwise_append.2 ⟨h.uni,by simp,fun p hp q hq=>?_⟩
  obtain rfl:=List.mem_singleton.1 hq
  exact hno p hp
 now:=h.now
 nx0:=by have:=h.nx0;show 0≤S.nxt + 1;omega
 ref:=h.ref
theorem NI.begin {S:NS} (h:NI S) {tb:Tb} (hg:GT tb) (hw:tb.wf) (hsub:∀ m ∈ S.tb.maps,m ∈ tb.maps) {f:Fl} (hnew:∀ m ∈ tb.maps,m ∈ S.tb.maps∨m=f.map) (hin:f.map ∈ tb.maps) (hno:∀ q ∈ S.fl,¬ (q.2.map=f.map∧q.2.rem=f.rem∧q.2.rport=f.rport)) (hl:S.fl.length < 48):NI (({ S with tb:=tb }:NS).begin f) where
 toNJ:=h.toNJ.begin hg hw hsub hnew hin hno hl
 due q hq:=by
  rcases List.mem_append.1 hq with hq|hq
  ·exact h.due q hq
  ·obtain rfl:=List.mem_singleton.1 hq
   have:=Qkf f.map.proto f.st
   show (S.now:Int) < S.now + Ju f.map.proto f.st∧(S.now:Int) + Ju f.map.proto f.st≤S.now + 60
   omega
theorem Qll {S:NS} {k:Int} {p:Pk} {inw:Bool} {q:Int × Fl} (hq:q ∈ (S.goes k p inw).fl):∃ r ∈ S.fl,q.1=r.1∧q.2.map=r.2.map∧q.2.rem=r.2.rem∧q.2.rport=r.2.rport∧(q.2=r.2∨q.2=r.2.next p inw S.now):=by
 obtain ⟨r,hr,rfl⟩:=List.mem_map.1 hq
 refine ⟨r,hr,?_⟩
 split
 ·exact ⟨rfl,rfl,rfl,rfl,.inr rfl⟩
 ·exact ⟨rfl,rfl,rfl,rfl,.inl rfl⟩
theorem NI.goes {S:NS} (h:NI S) (k:Int) (p:Pk) (inw:Bool):NI (S.goes k p inw) where
 gt:=h.gt
 wf:=h.wf
 ids q hq:=by
  obtain ⟨r,hr,e,_⟩:=Qll hq
  rw[e];exact h.ids r hr
 dis:=by
  refine List.pairwise_map.2 (h.dis.imp fun {a b} hab=>?_)
  (repeat' split)<;>exact hab
 len:=by show (S.fl.map _).length≤48;rw[List.length_map];exact h.len
 inm q hq:=by
  obtain ⟨r,hr,_,e,_⟩:=Qll hq
  rw[e];exact h.inm r hr
 has m hm:=by
  obtain ⟨q,hq,e⟩:=h.has m hm
  refine ⟨_,List.mem_map.2 ⟨q,hq,rfl⟩,?_⟩
  split<;>exact e
 uni:=by
  refine List.pairwise_map.2 (h.uni.imp fun {a b} hab=>?_)
  (repeat' split)<;>exact hab
 now:=h.now
 nx0:=h.nx0
 ref:=h.ref
 due q hq:=by
  obtain ⟨r,hr,_,_,_,_,e⟩:=Qll hq
  have hd:=h.due r hr
  rcases e with e|e
  ·rw[e];exact hd
  ·rw[e]
   rcases Qsw r.2.map.proto r.2.st r.2.side r.2.due p.flags inw (now:=S.now) Zom (by have:=h.now;omega) with e2|⟨d,h1,h2,e2⟩
   ·show (S.now:Int) < (Qbr _ _ _ _ _ _ _).2.2∧(Qbr _ _ _ _ _ _ _).2.2≤S.now + 60
    rw[e2];exact hd
   ·show (S.now:Int) < (Qbr _ _ _ _ _ _ _).2.2∧(Qbr _ _ _ _ _ _ _).2.2≤S.now + 60
    rw[e2];omega
theorem Qzw {S:NS} {m:Mp} {r rp:Int} (h0:∀ q ∈ S.fl,1≤q.1) (h:S.findF m r rp=0):∀ q ∈ S.fl,¬ (q.2.map=m∧q.2.rem=r∧q.2.rport=rp):=by
 intro q hq ⟨e1,e2,e3⟩
 unfold NS.findF at h
 split at h
 ·rename_i x hx
  have:=h0 x (List.mem_of_find?_eq_some hx)
  omega
 ·rename_i hx
  have:=List.find?_eq_none.1 hx q hq
  simp[e1,e2,e3]at this
theorem NJ.endF {x:NS × List Ev} (h:NJ x.1) (k:Int):NJ (Proofs.YtogckmommodmhaaGreatDoor.endF x k).1:=by
 obtain ⟨S,es⟩:=x
 unfold Proofs.YtogckmommodmhaaGreatDoor.endF
 dsimp only at h ⊢
 cases hf:S.fl.find? (fun q=>q.1 == k) with
 | none=>exact h
 | some q =>
  have hq:=List.mem_of_find?_eq_some hf
  have hk:q.1=k:=by simpa using List.find?_some hf
  have hsub:(S.fl.filter fun r=>!(r.1 == k)).Sublist S.fl:=List.filter_sublist
  have hmem:∀ r,r ∈ (S.fl.filter fun r=>!(r.1 == k)) ↔ r ∈ S.fl∧r.1≠k:=fun r=>by simp
  dsimp only
  split
  ·rename_i hany
   obtain ⟨r,hr,er⟩:=List.any_eq_true.1 hany
   have er:r.2.map=q.2.map:=by simpa using er
   exact ⟨h.gt,h.wf,fun r hr=>h.ids r (hsub.subset hr),h.dis.sublist hsub,Nat.le_trans hsub.length_le h.len,fun r hr=>h.inm r (hsub.subset hr),fun m hm=>by
    obtain ⟨p,hp,e⟩:=h.has m hm
    by_cases hpk:p.1=k
    ·have:p=q:=by
      have hpw:=List.pairwise_iff_getElem.1 h.dis
      obtain ⟨i,hi,rfl⟩:=List.getElem_of_mem hp
      obtain ⟨j,hj,rfl⟩:=List.getElem_of_mem hq
      rcases Nat.lt_trichotomy i j with h1|h1|h1
      ·exact (hpw i j hi hj h1 (by rw[hpk,hk])).elim
      ·subst h1;rfl
      ·exact (hpw j i hj hi h1 (by rw[hpk,hk])).elim
     subst this
     exact ⟨r,hr,er.trans e⟩
    ·exact ⟨p,(hmem p).2 ⟨hp,hpk⟩,e⟩,h.uni.sublist hsub,h.now,h.nx0,h.ref⟩
  ·rename_i hany
   obtain ⟨i,hi,hgi,g1,g2,g3,g4⟩:=h.gt.cls h.wf (h.inm q hq)
   have hno:∀ r ∈ (S.fl.filter fun r=>!(r.1 == k)),r.2.map≠q.2.map:=fun r hr e=>hany (List.any_eq_true.2 ⟨r,hr,by simpa using e⟩)
   have hap:∀ o ∈ S.tb.maps.eraseIdx i,o≠q.2.map:=fun o ho e=>by
    have:=List.find?_eq_none.1 (Yba h.gt hgi) o ho
    rw[e]at this
    exact this (Qmq _)
   exact ⟨g1,g2,fun r hr=>h.ids r (hsub.subset hr),h.dis.sublist hsub,Nat.le_trans hsub.length_le h.len,fun r hr=>by
     rw[g3]
     obtain ⟨j,hj,e⟩:=List.getElem_of_mem (h.inm r (hsub.subset hr))
     refine List.mem_eraseIdx_iff_getElem.2 ⟨j,hj,fun e2=>?_,e⟩
     subst e2
     rw[List.getElem?_eq_getElem hj]at hgi
     exact hno r hr (e.symm.trans (Option.some.inj hgi)),fun m hm=>by
     have hm2:m ∈ S.tb.maps.eraseIdx i:=by rw[← g3];exact hm
     obtain ⟨p,hp,e⟩:=h.has m (List.mem_of_mem_eraseIdx hm2)
     refine ⟨p,(hmem p).2 ⟨hp,fun hpk=>?_⟩,e⟩
     have:p=q:=by
      have hpw:=List.pairwise_iff_getElem.1 h.dis
      obtain ⟨i,hi,rfl⟩:=List.getElem_of_mem hp
      obtain ⟨j,hj,rfl⟩:=List.getElem_of_mem hq
      rcases Nat.lt_trichotomy i j with h1|h1|h1
      ·exact (hpw i j hi hj h1 (by rw[hpk,hk])).elim
      ·subst h1;rfl
      ·exact (hpw j i hj hi h1 (by rw[hpk,hk])).elim
     subst this
     exact hap m hm2 e.symm,h.uni.sublist hsub,h.now,h.nx0,h.ref⟩
def Fl.zero:List AV:=[.int .i64 0,.int .i64 0,.int .i64 0,.int .i64 0,.int .i64 0,.int .i64 0,.int .i64 0,.int .i64 0,.int .i64 0,.int .i64 0]
def kvF (l:List (Int × Fl)):List (AV × AV):=l.map fun q=>(.int .i64 q.1,.agg q.2.enc)
theorem Ko:MapT Tryz.prog 89 false [.int .i64] (.agg Fl.zero):=MapT.mk' (by kernel_rfl)
structure NB (S:NS):Prop where
 wf:S.tb.wf
 ids:∀ q ∈ S.fl,1≤q.1∧q.1≤S.nxt
 dis:S.fl.Pairwise fun p q=>p.1≠q.1
 now:S.now≤549755813888
 nx0:0≤S.nxt
theorem NJ.nb {S:NS} (h:NJ S):NB S:=⟨h.wf,h.ids,h.dis,h.now,h.nx0⟩
theorem NB.setTb {S:NS} (h:NB S) {tb:Tb} (hw:tb.wf):NB { S with tb:=tb }:=⟨hw,h.ids,h.dis,h.now,h.nx0⟩
def NS.tl (S:NS):List AV:=[.mp 68,.sl 1 69 0 S.fl.length S.fl.length,.int .i64 S.nxt,.ptr 0 0,.int .i64 S.told,.int .i64 S.ref,.int .i64 S.acts,.bool S.loose]
def NS.cells (S:NS):List AV:=S.tb.enc++S.tl
def Qm (S:NS) (T:WT):List (Nat × Bk):=(67,.cells S.cells)::(68,.mapb (kvF S.fl) false)::(69,.cells (Qp S.keys))::T.hb
theorem NS.cells_len {S:NS} (h:S.tb.wf):S.cells.length=38:=by simp[NS.cells,NS.tl,Tb.enc_len h]
theorem NS.cells_tb {S:NS} (h:S.tb.wf):S.cells.take 30=S.tb.enc:=by
 unfold NS.cells
 rw[← Tb.enc_len h,List.take_left]
theorem NS.cells_get {S:NS} (h:S.tb.wf) (j:Nat):S.cells.getD (30 + j) .any=S.tl.getD j .any:=by
 unfold NS.cells
 rw[← Tb.enc_len h]
 simp[List.getD,List.getElem?_append_right]
theorem NS.cells_set {S:NS} (h:S.tb.wf) (j:Nat) (v:AV):S.cells.set (30 + j) v=S.tb.enc++S.tl.set j v:=by
 unfold NS.cells
 rw[List.set_append,if_neg (by rw[Tb.enc_len h];omega),Tb.enc_len h,Nat.add_sub_cancel_left]
theorem NS.c30 {S:NS} (h:S.tb.wf):S.cells.getD 30 .any=.mp 68:=NS.cells_get h 0
theorem NS.c31 {S:NS} (h:S.tb.wf):S.cells.getD 31 .any=.sl 1 69 0 S.fl.length S.fl.length:=NS.cells_get h 1
theorem NS.c32 {S:NS} (h:S.tb.wf):S.cells.getD 32 .any=.int .i64 S.nxt:=NS.cells_get h 2
theorem NS.c33 {S:NS} (h:S.tb.wf):S.cells.getD 33 .any=.ptr 0 0:=NS.cells_get h 3
theorem NS.c34 {S:NS} (h:S.tb.wf):S.cells.getD 34 .any=.int .i64 S.told:=NS.cells_get h 4
theorem NS.c35 {S:NS} (h:S.tb.wf):S.cells.getD 35 .any=.int .i64 S.ref:=NS.cells_get h 5
theorem NS.c36 {S:NS} (h:S.tb.wf):S.cells.getD 36 .any=.int .i64 S.acts:=NS.cells_get h 6
theorem NS.c37 {S:NS} (h:S.tb.wf):S.cells.getD 37 .any=.bool S.loose:=NS.cells_get h 7
theorem Xly (n:Nat) (l:List (Int × Fl)):∀ q ∈ kvF l,Qe n q.1∧Qe n q.2:=fun q hq=>by
 obtain ⟨t,_,rfl⟩:=List.mem_map.1 hq
 simp[Qe,nmAll,Fl.enc,Kw]
theorem NS.cells_nm (S:NS):nmAll 70 S.cells:=by
 simp[NS.cells,NS.tl,Qk1,Tb.enc_nm,nmAll,Qe]
theorem Qi {S:NS} {T:WT} (hT:T.wf):HL (Qm S T) 70 where
 mem q hq:=by
  rcases List.mem_cons.1 hq with rfl|hq
  ·exact ⟨(by decide:67 < 70),NS.cells_nm S⟩
  rcases List.mem_cons.1 hq with rfl|hq
  ·exact ⟨(by decide:68 < 70),Xly 70 _⟩
  rcases List.mem_cons.1 hq with rfl|hq
  ·exact ⟨(by decide:69 < 70),by simp[nmB,Un]⟩
  ·have:=(WT.HLb hT).mem q hq
   exact ⟨by omega,Qc7 Zde this.2⟩
 cov b hb:=by
  by_cases h:b < 67
  ·obtain ⟨q,hq,e⟩:=(WT.HLb hT).cov b h
   exact ⟨q,by simp[Qm,hq],e⟩
  ·rcases (by omega:b=67∨b=68∨b=69) with rfl|rfl|rfl
   ·exact ⟨_,List.mem_cons_self,rfl⟩
   ·exact ⟨_,List.mem_cons_of_mem _ List.mem_cons_self,rfl⟩
   ·exact ⟨_,List.mem_cons_of_mem _ (List.mem_cons_of_mem _ List.mem_cons_self),rfl⟩
 self q hq:=by
  unfold Qm
  rcases List.mem_cons.1 hq with rfl|hq
  ·rfl
  rcases List.mem_cons.1 hq with rfl|hq
  ·rfl
  rcases List.mem_cons.1 hq with rfl|hq
  ·rfl
  ·have h1:=((WT.HLb hT).mem q hq).1
   rw[Qc,if_neg Zom,Qc,if_neg Zom,Qc,if_neg Zom,((WT.HLb hT).live h1 70).1]
   exact (WT.HLb hT).self q hq
theorem Qej:FT Tryz.prog 20 Tryz.f20 (tcO Tryz.prog Tryz.f20) [.cell 4 (.ag 4)]:=.of Tryz.func20
theorem Xvw:FT Tryz.prog 21 Tryz.f21 (tcO Tryz.prog Tryz.f21) [.t 2]:=.of Tryz.func21
theorem Xmj:FT Tryz.prog 23 Tryz.f23 (tcO Tryz.prog Tryz.f23) [.cell 2 (.ag 30)]:=.of Tryz.func23
theorem Qq9:FT Tryz.prog 24 Tryz.f24 (tcO Tryz.prog Tryz.f24) [.t 2]:=.of Tryz.func24
theorem Qrj:FT Tryz.prog 86 Tryz.f86 (tcO Tryz.prog Tryz.f86) [.t 8]:=.of Tryz.func86
theorem Xbt:FT Tryz.prog 88 Tryz.f88 (tcO Tryz.prog Tryz.f88) [.cell 6 (.ag 4)]:=.of Tryz.func88
theorem Xl2:FT Tryz.prog 90 Tryz.f90 (tcO Tryz.prog Tryz.f90) [.t 6]:=.of Tryz.func90
theorem Xhd:FT Tryz.prog 91 Tryz.f91 (tcO Tryz.prog Tryz.f91) []:=.of Tryz.func91
theorem Qvn:FT Tryz.prog 93 Tryz.f93 (tcO Tryz.prog Tryz.f93) []:=.of Tryz.func93
theorem Xwm:FT Tryz.prog 95 Tryz.f95 (tcO Tryz.prog Tryz.f95) [.t 4]:=.of Tryz.func95
theorem Xuz:FT Tryz.prog 97 Tryz.f97 (tcO Tryz.prog Tryz.f97) [.t 5]:=.of Tryz.func97
theorem Xhf:FT Tryz.prog 100 Tryz.f100 (tcO Tryz.prog Tryz.f100) [.t 3]:=.of Tryz.func100
theorem Xi9:FT Tryz.prog 101 Tryz.f101 (tcO Tryz.prog Tryz.f101) [.t 4]:=.of Tryz.func101
theorem Xxh:FT Tryz.prog 58 Tryz.f58 (tcO Tryz.prog Tryz.f58) [.cell 4 (.ag 4)]:=.of Tryz.func58
theorem Xy6:FT Tryz.prog 59 Tryz.f59 (tcO Tryz.prog Tryz.f59) [.cell 4 (.ag 4)]:=.of Tryz.func59
theorem Qlt:FT Tryz.prog 60 Tryz.f60 (tcO Tryz.prog Tryz.f60) [.cell 4 (.ag 4)]:=.of Tryz.func60
theorem Xu5:FT Tryz.prog 28 Tryz.f28 (tcO Tryz.prog Tryz.f28) [.t 2]:=.of Tryz.func28
theorem Xwb:FT Tryz.prog 96 Tryz.f96 (tcO Tryz.prog Tryz.f96) [.t 4]:=.of Tryz.func96
theorem Qkg:FT Tryz.prog 136 Tryz.f136 (tcO Tryz.prog Tryz.f136) [.t 4]:=.of Tryz.func136
theorem Qyo:FT Tryz.prog 99 Tryz.f99 (tcO Tryz.prog Tryz.f99) [.t 4]:=.of Tryz.func99
theorem Qce (l:List (Int × Fl)):Qh5 false [.int .i64] (kvF l):=fun q hq=>by
 obtain ⟨t,_,rfl⟩:=List.mem_map.1 hq
 rfl
theorem Qkh (l:List (Int × Fl)) (x:Int):fIx (kvF l) (.int .i64 x)=l.findIdx? fun q=>q.1 == x:=by
 unfold fIx kvF
 induction l with
 | nil=>rfl
 | cons t D ih =>
  simp only[List.map_cons,List.findIdx?_cons]
  rw[ih]
  by_cases h:t.1=x
  ·simp[h]
  ·simp[h]
theorem Xdu {l:List (Int × Fl)} (hd:l.Pairwise fun p q=>p.1≠q.1) {i:Nat} (hi:i < l.length):l.findIdx? (fun q=>q.1 == l[i].1)=some i:=by
 rw[List.findIdx?_eq_some_iff_getElem]
 refine ⟨hi,by simp,fun j hj=>?_⟩
 have:=(List.pairwise_iff_getElem.1 hd) j i Zom hi hj
 simpa using this
theorem Qld {l:List (Int × Fl)} (hd:l.Pairwise fun p q=>p.1≠q.1) {i:Nat} (hi:i < l.length) (z:AV):Qem (kvF l) (.int .i64 l[i].1) z=.agg l[i].2.enc:=by
 unfold Qem
 rw[Qkh,Xdu hd hi]
 simp[kvF,List.getD,hi]
theorem Xry {l:List (Int × Fl)} {x:Int} (h:∀ q ∈ l,q.1≠x) (f:Fl):Qel (kvF l) (.int .i64 x) (.agg f.enc)=kvF (l++[(x,f)]):=by
 unfold Qel
 rw[Qkh,List.findIdx?_eq_none_iff.2 fun t ht=>by simpa using h t ht]
 simp[kvF]
theorem Xxk {l:List (Int × Fl)} (hd:l.Pairwise fun p q=>p.1≠q.1) {i:Nat} (hi:i < l.length) (f:Fl):Qel (kvF l) (.int .i64 l[i].1) (.agg f.enc)=kvF (l.map fun q=>if q.1=l[i].1 then (q.1,f) else q):=by
 unfold Qel
 rw[Qkh,Xdu hd hi]
 refine List.ext_getElem (by simp[kvF]) fun j h1 h2=>?_
 have hj:j < l.length:=by simpa [kvF] using h1
 simp only[kvF,List.getElem_set,List.getElem_map]
 by_cases e:i=j
 ·subst e;simp
 ·rw[if_neg e,if_neg]
  intro e2
  have hp:=List.pairwise_iff_getElem.1 hd
  rcases Nat.lt_or_gt_of_ne e with h|h
  ·exact hp i j hi hj h e2.symm
  ·exact hp j i hj hi h e2
theorem Qio (S:NS) {i:Nat} (hi:i < S.fl.length):(Qp S.keys).getD i .any=.int .i64 S.fl[i].1:=by
 simp[Qp,NS.keys,List.getD,hi]
theorem Qfl (S:NS):(Qp S.keys).length=S.fl.length:=by simp[Qp,NS.keys]
theorem Xpc {S:NS} {m:Mp} {r rp:Int} {i:Nat} (hi:i < S.fl.length) (hno:∀ q ∈ S.fl.take i,¬ (q.2.map=m∧q.2.rem=r∧q.2.rport=rp)) (h:S.fl[i].2.map=m∧S.fl[i].2.rem=r∧S.fl[i].2.rport=rp):S.findF m r rp=S.fl[i].1:=by
 have hs:S.fl=S.fl.take i++S.fl[i]::S.fl.drop (i + 1):=by rw[← List.drop_eq_getElem_cons hi,List.take_append_drop]
 have hf:S.fl.find? (fun q=>decide (q.2.map=m) && q.2.rem == r && q.2.rport == rp)=some S.fl[i]:=by
  conv=>lhs;rw[hs]
  rw[List.find?_append,List.find?_eq_none.2 fun q hq=>by have:=hno q hq;simpa using this,List.find?_cons]
  simp[h.1,h.2.1,h.2.2]
 unfold NS.findF
 rw[hf]
theorem Xf6 {S:NS} {m:Mp} {r rp:Int} (hno:∀ q ∈ S.fl,¬ (q.2.map=m∧q.2.rem=r∧q.2.rport=rp)):S.findF m r rp=0:=by
 unfold NS.findF
 rw[List.find?_eq_none.2 fun q hq=>by have:=hno q hq;simpa using this]
theorem Yb {S:NS} {T:WT} (hT:T.wf) (n b:Nat) (hb:70≤b):Qb (Qm S T) n b=if b < n then .dead else .free:=by
 unfold Qm
 rw[Qc,if_neg Zom,Qc,if_neg Zom,Qc,if_neg Zom,WT.hbHi hT n b Zom]
theorem Jw (S:NS) (T:WT) (n:Nat):Qb (Qm S T) n 67=.cells S.cells:=rfl
theorem Qgc (S:NS) (T:WT) (n:Nat):Qb (Qm S T) n 68=.mapb (kvF S.fl) false:=rfl
theorem Qg8 (S:NS) (T:WT) (n:Nat):Qb (Qm S T) n 69=.cells (Qp S.keys):=rfl
theorem Ze {S:NS} {T:WT} (hT:T.wf):∀ q ∈ Qm S T,q.2.live:=fun q hq=>Xe ((Qi hT).mem q hq).2
theorem To.ndrop {p:List Nat} {t t':List (Nat × AV)} {ex:List (Nat × Bk)} {S:NS} {T:WT} {n:Nat} (hT:T.wf) (hex:∀ q ∈ ex,70≤q.1) (hp:∀ b ∈ p,b < 70) (ht:Qw id 70 t t'):To p ⟨t,ex++Qm S T,n⟩ ⟨t',Qm S T,70⟩:=by
 have hlo:∀ b,b < 70→Qb (ex++Qm S T) n b=Qb (Qm S T) 70 b:=fun b hb=>by
  rw[Xn fun q hq e=>by have:=hex q hq;omega]
  exact ((Qi hT).live hb n).1
 refine To.lk id (fun b hb=>⟨rfl,hp b hb⟩) (fun b hlv=>?_) (fun b hb hnl=>?_) (fun b hb=>Yb hT 70 b hb |>.trans (if_neg (by have hb:70≤b:=hb;omega))) (fun b b' _ _ _ _ e=>e) (fun b hb hlv=>?_) ht
 ·by_cases h:b < 70
  ·exact h
  ·have hlv:(Qb (Qm S T) 70 b).live:=hlv
   rw[Yb hT 70 b Zom,if_neg h]at hlv
   exact hlv.elim
 ·obtain ⟨_,q,hq,_,e⟩:=(Qi (S:=S) hT).live hb 70
  exact (hnl (by show (Qb (Qm S T) 70 b).live;rw[e];exact Xe ((Qi hT).mem q hq).2)).elim
 ·obtain ⟨_,q,hq,_,e⟩:=(Qi (S:=S) hT).live hb 70
  refine ⟨?_,?_⟩
  ·show nmB 70 (Qb (Qm S T) 70 b)
   rw[e];exact ((Qi hT).mem q hq).2
  ·show Qb (ex++Qm S T) n b=Xf id (Qb (Qm S T) 70 b)
   rw[hlo b hb,Wz]
theorem To.nkeep {p:List Nat} {t t':List (Nat × AV)} {ex:List (Nat × Bk)} {S:NS} {T:WT} {x:Bk} {n:Nat} (hT:T.wf) (hex:∀ q ∈ ex,71≤q.1) (hx:nmB 70 x) (hp:∀ b ∈ p,b < 70) (ht:Qw id 71 t t'):To p ⟨t,ex++(70,x)::Qm S T,n⟩ ⟨t',(70,x)::Qm S T,71⟩:=by
 have hl:∀ b,b < 70→Qb ((70,x)::Qm S T) 71 b=Qb (Qm S T) 70 b:=fun b hb=>by
  rw[Qc,if_neg Zom]
  exact ((Qi hT).live hb 71).1
 have h70:Qb ((70,x)::Qm S T) 71 70=x:=by rw[Qc,if_pos rfl]
 have hs:∀ b,b < 71→Qb (ex++(70,x)::Qm S T) n b=Qb ((70,x)::Qm S T) 71 b:=fun b hb=>by
  rw[Xn fun q hq e=>by have:=hex q hq;omega]
  by_cases h:b=70
  ·subst h;rw[h70,Qc,if_pos rfl]
  ·rw[hl b Zom,Qc,if_neg Zom]
   exact ((Qi hT).live Zom n).1
 have hlow:∀ b,b < 71→(Qb ((70,x)::Qm S T) 71 b).live∧nmB 70 (Qb ((70,x)::Qm S T) 71 b):=fun b hb=>by
  by_cases h:b=70
  ·subst h;rw[h70];exact ⟨Xe hx,hx⟩
  ·rw[hl b Zom]
   obtain ⟨_,q,hq,_,e⟩:=(Qi (S:=S) hT).live (show b < 70 by omega) 70
   rw[e]
   have:=((Qi hT).mem q hq).2
   exact ⟨Xe this,this⟩
 have hhi:∀ b,71≤b→Qb ((70,x)::Qm S T) 71 b=.free:=fun b hb=>by
  rw[Qc,if_neg Zom,Yb hT 71 b Zom,if_neg Zom]
 refine To.lk id (fun b hb=>⟨rfl,by have:=hp b hb;show b < 71;omega⟩) (fun b hlv=>?_) (fun b hb hnl=>(hnl (hlow b hb).1).elim) (fun b hb=>hhi b hb) (fun b b' _ _ _ _ e=>e) (fun b hb hlv=>⟨Qc7 (show 70≤71 by decide) (hlow b hb).2,by show Qb (ex++(70,x)::Qm S T) n b=Xf id (Qb ((70,x)::Qm S T) 71 b);rw[hs b hb,Wz]⟩) ht
 by_cases h:b < 71
 ·exact h
 ·have hlv:(Qb ((70,x)::Qm S T) 71 b).live:=hlv
  rw[hhi b Zom]at hlv
  exact hlv.elim
set_option maxHeartbeats 4000000 in
set_option maxRecDepth 20000 in
theorem Qtb (gl:Nat→AV) (S:NS) (T:WT) (hS:NJ S) (hT:T.wf) (m:Mp) (r rp:Int):GD Tryz.prog gl 86 [.ptr 67 0,.agg m.enc,.int .i64 r,.int .i64 rp] (Qm S T) 70 (List.range 70) (.int .i64 (S.findF m r rp)) (Qm S T):=by
 refine Qrj.gq (of_decide_eq_true rfl) (Ze hT) (fun b hb=>List.mem_range.1 hb) fun c hgh hg=>?_
 conv in tcO _ _=>cbv
 have hHi:=fun n b hb=>Yb (S:=S) hT n b hb
 have h67:=Jw S T
 have h68:=Qgc S T
 have h69:=Qg8 S T
 have hcl:=NS.cells_len hS.wf
 have c30:=NS.c30 hS.wf
 have c31:=NS.c31 hS.wf
 have hkl:=Qfl S
 obtain ⟨mp,ms,mi,ma,mt⟩:=m
 unfold Mp.enc
 refine Qg (An @hHi (An @h67 (An @hcl @c31))) ?_
 refine Yj (fun k:Nat=>k≤S.fl.length∧∀ q ∈ S.fl.take k,¬ (q.2.map=⟨mp,ms,mi,ma,mt⟩∧q.2.rem=r∧q.2.rport=rp)) (fun k=>⟨[(0,.ptr 67 0),(2,.int .i64 r),(3,.int .i64 rp),(5,.ptr 70 0),(15,.sl 1 69 0 S.fl.length S.fl.length),(16,.int .i64 S.fl.length),(17,.int .i64 k)],(70,.cells [.int .i64 mp,.int .i64 ms,.int .i64 mi,.int .i64 ma,.int .i64 mt])::Qm S T,71⟩) (fun k=>S.fl.length - k) Qrj.mixed (List.range 70) hgh
  ⟨0,⟨by omega,by simp⟩,To.sel (by exact Qs) fun b=>rfl⟩ fun k hk=>?_
 obtain ⟨hk,hno⟩:=hk
 have h48:=hS.len
 refine Qd ?_
 (refine Qa (fun h1=>?_) (fun h1=>?_)<;>try exact h1.elim)
 ·have hkn:k < S.fl.length:=by omega
  have hgk:=Qio S hkn
  have hga:=Qld hS.dis hkn (.agg Fl.zero)
  have hks:=Qce S.fl
  have hki:=Uo S.fl[k].1
  have hat:=Xpc (S:=S) (m:=⟨mp,ms,mi,ma,mt⟩) (r:=r) (rp:=rp) hkn hno
  have hnx:¬ (S.fl[k].2.map=⟨mp,ms,mi,ma,mt⟩∧S.fl[k].2.rem=r∧S.fl[k].2.rport=rp)→∀ q ∈ S.fl.take (k + 1),¬ (q.2.map=⟨mp,ms,mi,ma,mt⟩∧q.2.rem=r∧q.2.rport=rp):=fun h q hq=>by
   rw[List.take_succ,List.mem_append]at hq
   rcases hq with hq|hq
   ·exact hno q hq
   ·simp[hkn]at hq;subst hq;exact h
  generalize S.fl[k]=q at *
  obtain ⟨x,⟨⟨p0,p1,p2,p3,p4⟩,g0,g1,g2,g3,g4⟩⟩:=q
  unfold Fl.enc Kw at hga
  dsimp only at hga hat hnx hgk hki
  have heq:=@Qnc c false ⟨p0,p1,p2,p3,p4⟩ ⟨mp,ms,mi,ma,mt⟩
  unfold Mp.enc at heq
  dsimp only at heq
  refine Qg (An @h69 (An @hkl (An @hgk (An @h67 (An @hcl @c30))))) ?_
  ((first|refine Qa3 Ko ?_|refine Ub Ko ?_);(have zf1:=@h68;have zf2:=@hks;have zf3:=@hki;have zf4:=@hga;have zf5:=@hHi;refine XG ?_;clear zf1 zf2 zf3 zf4 zf5;((try (repeat' with_reducible refine And.intro ?_ ?_));(try any_goals (first|refine zm ?_|exact CL|fail)))))
  by_cases hm:(⟨p0,p1,p2,p3,p4⟩:Mp)=⟨mp,ms,mi,ma,mt⟩
  ·rw[decide_eq_true hm]at heq
   by_cases hr:g0=r∧g1=rp
   ·have f1:(g0 == r)=true:=beq_iff_eq.2 hr.1
    have f2:(g1 == rp)=true:=beq_iff_eq.2 hr.2
    have e:=hat ⟨hm,hr.1,hr.2⟩
    refine Xa heq @hHi ?_
    refine Qg (An @f1 @f2) ?_
    (refine Qa (fun h2=>?_) (fun h2=>?_)<;>try exact h2.elim)
    refine Qd ?_
    refine ⟨(),?_⟩
    rw[e]
    exact To.ndrop (ex:=[(71,_),(71,_),(70,_)]) hT Zsi (fun b hb=>List.mem_range.1 hb) (by simp[Qw,Qe,look,ren])
   ·have hxn:=hnx fun h=>hr ⟨h.2.1,h.2.2⟩
    by_cases h0:g0=r
    ·have f1:(g0 == r)=true:=beq_iff_eq.2 h0
     have f2:(g1 == rp)=false:=beq_eq_false_iff_ne.2 fun e=>hr ⟨h0,e⟩
     refine Xa heq @hHi ?_
     refine Qg (An @f1 @f2) ?_
     (refine Qa (fun h2=>?_) (fun h2=>?_)<;>try exact h2.elim)
     refine Qd ?_
     exact ⟨k + 1,⟨by omega,hxn⟩,To.nkeep (ex:=[(71,_),(71,_)]) hT Zsi (by simp[nmB,nmAll,Qe]) (fun b hb=>List.mem_range.1 hb) (by simp[Qw,Qe,nmAll,look,ren]),by omega⟩
    ·have f1:(g0 == r)=false:=beq_eq_false_iff_ne.2 h0
     refine Xa heq @hHi ?_
     refine Qg @f1 ?_
     (refine Qa (fun h2=>?_) (fun h2=>?_)<;>try exact h2.elim)
     refine Qd ?_
     exact ⟨k + 1,⟨by omega,hxn⟩,To.nkeep (ex:=[(71,_),(71,_)]) hT Zsi (by simp[nmB,nmAll,Qe]) (fun b hb=>List.mem_range.1 hb) (by simp[Qw,Qe,nmAll,look,ren]),by omega⟩
  ·have hxn:=hnx fun h=>hm h.1
   rw[decide_eq_false hm]at heq
   refine Xa heq @hHi ?_
   (refine Qa (fun h2=>?_) (fun h2=>?_)<;>try exact h2.elim)
   refine Qd ?_
   exact ⟨k + 1,⟨by omega,hxn⟩,To.nkeep (ex:=[(71,_),(71,_)]) hT Zsi (by simp[nmB,nmAll,Qe]) (fun b hb=>List.mem_range.1 hb) (by simp[Qw,Qe,nmAll,look,ren]),by omega⟩
 ·obtain rfl:k=S.fl.length:=by omega
  rw[List.take_length]at hno
  rw[Xf6 hno]
  refine Qd ?_
  exact ⟨(),To.ndrop (ex:=[(70,_)]) hT Zsi (fun b hb=>List.mem_range.1 hb) (by simp[Qw,Qe,look,ren])⟩
theorem Qu8:FT Tryz.prog 77 Tryz.f77 (tcO Tryz.prog Tryz.f77) [.t 2]:=.of Tryz.func77
theorem Qrx:FT Tryz.prog 76 Tryz.f76 (tcO Tryz.prog Tryz.f76) [.t 2]:=.of Tryz.func76
theorem Xrh:FT Tryz.prog 37 Tryz.f37 (tcO Tryz.prog Tryz.f37) [.t 2]:=.of Tryz.func37
theorem Qk9:FT Tryz.prog 119 Tryz.f119 (tcO Tryz.prog Tryz.f119) [.t 6]:=.of Tryz.func119
theorem Xs4:FT Tryz.prog 121 Tryz.f121 (tcO Tryz.prog Tryz.f121) [.t 12]:=.of Tryz.func121
theorem Xaq:FT Tryz.prog 75 Tryz.f75 (tcO Tryz.prog Tryz.f75) [.t 8]:=.of Tryz.func75
theorem Qg4:FT Tryz.prog 71 Tryz.f71 (tcO Tryz.prog Tryz.f71) [.t 2,.t 3]:=.of Tryz.func71
theorem Xm6:FT Tryz.prog 74 Tryz.f74 (tcO Tryz.prog Tryz.f74) [.t 2,.t 3]:=.of Tryz.func74
theorem Qo3:FT Tryz.prog 73 Tryz.f73 (tcO Tryz.prog Tryz.f73) [.t 2]:=.of Tryz.func73
theorem Xn5:FT Tryz.prog 34 Tryz.f34 (tcO Tryz.prog Tryz.f34) [.cell 2 (.ag 12),.t 3]:=.of Tryz.func34
theorem Xyx:FT Tryz.prog 72 Tryz.f72 (tcO Tryz.prog Tryz.f72) [.cell 2 (.ag 12),.t 3]:=.of Tryz.func72
theorem Xux:FT Tryz.prog 133 Tryz.f133 (tcO Tryz.prog Tryz.f133) []:=.of Tryz.func133
theorem Xos:FT Tryz.prog 134 Tryz.f134 (tcO Tryz.prog Tryz.f134) []:=.of Tryz.func134
theorem Qch:FT Tryz.prog 94 Tryz.f94 (tcO Tryz.prog Tryz.f94) [.t 8,.t 9]:=.of Tryz.func94
theorem Xbb:FT Tryz.prog 124 Tryz.f124 (tcO Tryz.prog Tryz.f124) [.t 4,.t 5]:=.of Tryz.func124
theorem Qrr {α:Type} (p:α→Bool) (l:List α) (d:α) (k:Nat) (h:k < l.length):(l.take (k + 1)).all p=((l.take k).all p && p (l.getD k d)):=by
 have e:l.take (k + 1)=l.take k++[l.getD k d]:=by
  rw[List.take_add_one,List.getElem?_eq_getElem h];simp[List.getD,h]
 rw[e,List.all_append];simp
theorem Qzm {α:Type} (p:α→Bool) (l:List α) (d:α) (k:Nat) (h:k < l.length) (hn:p (l.getD k d)=false):l.all p=false:=by
 rw[List.all_eq_false]
 refine ⟨l.getD k d,?_,by rw[hn];decide⟩
 simp only[List.getD,List.getElem?_eq_getElem h,Option.getD_some];exact List.getElem_mem h
def inW (hi n:Int):Bool:=decide (0≤n) && decide (n≤hi)
theorem Qpa (gl:Nat→AV) (l:List Int) (hl:l.length≤100):PS Tryz.prog gl 77 [.isl l.length (Qp l)] (.bool (l.all (inW 65535))):=by
 refine Qu8.ps (of_decide_eq_true rfl) (by simp[Qe]) fun c hN hg=>?_
 conv in tcO _ _=>cbv
 refine Qd ?_
 refine Xl (fun k:Nat=>k≤l.length∧(l.take k).all (inW 65535)=true) (fun k=>⟨[(5,.isl l.length (Qp l)),(6,.int .i64 l.length),(7,.int .i64 k)],[],0⟩) (fun k=>l.length - k) Qu8.mixed hN
  ⟨0,by simp,[],by exact Qs⟩ fun k hk=>?_
 obtain ⟨hk,ha⟩:=hk
 refine Qd ?_
 (refine Qa (fun h1=>?_) (fun h1=>?_)<;>try exact h1.elim)
 ·have hs:=Qrr (inW 65535) l 0 k Zom
  have hcut:=Qzm (inW 65535) l 0 k Zom
  refine Qd ?_
  generalize l.getD k 0=x at *
  (refine Qa (fun h2=>?_) (fun h2=>?_)<;>try exact h2.elim)
  ·refine Qd ?_
   refine (hcut ?_).symm
   unfold inW;simp;omega
  ·refine Qd ?_
   refine ⟨k + 1,⟨by omega,?_⟩,⟨[],?_⟩,by omega⟩
   ·rw[hs,ha];unfold inW;simp;omega
   ·omega
 ·have:k=l.length:=by omega
  subst this
  refine Qd ?_
  rw[List.take_length]at ha;exact ha.symm
theorem Xa2 (gl:Nat→AV) (l:List Int) (hl:l.length≤100):PS Tryz.prog gl 76 [.isl l.length (Qp l)] (.bool (l.all (inW 4294967295))):=by
 refine Qrx.ps (of_decide_eq_true rfl) (by simp[Qe]) fun c hN hg=>?_
 conv in tcO _ _=>cbv
 refine Qd ?_
 refine Xl (fun k:Nat=>k≤l.length∧(l.take k).all (inW 4294967295)=true) (fun k=>⟨[(5,.isl l.length (Qp l)),(6,.int .i64 l.length),(7,.int .i64 k)],[],0⟩) (fun k=>l.length - k) Qrx.mixed hN
  ⟨0,by simp,[],by exact Qs⟩ fun k hk=>?_
 obtain ⟨hk,ha⟩:=hk
 refine Qd ?_
 (refine Qa (fun h1=>?_) (fun h1=>?_)<;>try exact h1.elim)
 ·have hs:=Qrr (inW 4294967295) l 0 k Zom
  have hcut:=Qzm (inW 4294967295) l 0 k Zom
  refine Qd ?_
  generalize l.getD k 0=x at *
  (refine Qa (fun h2=>?_) (fun h2=>?_)<;>try exact h2.elim)
  ·refine Qd ?_
   refine (hcut ?_).symm
   unfold inW;simp;omega
  ·refine Qd ?_
   refine ⟨k + 1,⟨by omega,?_⟩,⟨[],?_⟩,by omega⟩
   ·rw[hs,ha];unfold inW;simp;omega
   ·omega
 ·have:k=l.length:=by omega
  subst this
  refine Qd ?_
  rw[List.take_length]at ha;exact ha.symm
def Ur (p:Int):AV:=if p=1 then .tup [.int .i64 8,.int .i64 2] else if p=17 then .tup [.int .i64 8,.int .i64 6] else if p=6 then .tup [.int .i64 20,.int .i64 16] else .tup [.int .i64 0,.int .i64 0]
theorem Qhh (gl:Nat→AV) (p:Int):PS Tryz.prog gl 74 [.int .i64 p] (Ur p):=by
 refine Xm6.ps (of_decide_eq_true rfl) (by unfold Ur;split<;>(try split)<;>(try split)<;>simp[Qe,nmAll]) fun c hN hg=>?_
 conv in tcO _ _=>cbv
 refine Qd ?_
 (refine Qa (fun h1=>?_) (fun h1=>?_)<;>try exact h1.elim)
 ·refine Qd ?_
  unfold Ur;rw[if_pos h1]
 ·refine Qd ?_
  (refine Qa (fun h2=>?_) (fun h2=>?_)<;>try exact h2.elim)
  ·refine Qd ?_
   unfold Ur;rw[if_neg h1,if_pos h2]
  ·refine Qd ?_
   (refine Qa (fun h3=>?_) (fun h3=>?_)<;>try exact h3.elim)
   ·refine Qd ?_
    unfold Ur;rw[if_neg h1,if_neg h2,if_pos h3]
   ·refine Qd ?_
    unfold Ur;rw[if_neg h1,if_neg h2,if_neg h3]
def noT (e:Int):AV:=.tup [.agg pk0.enc,.int .i64 e]
theorem Jv (gl:Nat→AV) (e:Int):GS Tryz.prog gl 72 [.int .i64 e] [] 0 (noT e) [] 0:=by
 refine Xyx.gs (of_decide_eq_true rfl) Zsi fun c hgh hg=>?_
 conv in tcO _ _=>cbv
 unfold noT pk0 Pk.enc
 refine Qd ?_
 refine ⟨[],?_⟩
 exact Qs
theorem Qq4 (gl:Nat→AV) (l:List UInt8) (hl:l.length≤100000000):PS Tryz.prog gl 73 [.str l] (.int .i64 (nbI l)):=by
 refine Qo3.ps (of_decide_eq_true rfl) (by simp[Qe]) fun c hN hg=>?_
 conv in tcO _ _=>cbv
 refine Qd ?_
 refine Jh ?_
 refine Xl (fun k:Nat=>k≤l.length) (fun k=>⟨[(3,.int .i64 (nbI (l.take k))),(7,.sl 1 0 0 l.length l.length),(8,.int .i64 l.length),(9,.int .i64 k)],[(0,.cells (Xk l))],1⟩) (fun k=>l.length - k) Qo3.mixed hN
  ⟨0,by omega,[],by refine Qd ?_<;>rfl⟩ fun k hk=>?_
 refine Qd ?_
 (refine Qa (fun h1=>?_) (fun h1=>?_)<;>try exact h1.elim)
 ·have hs:=Xoo l k Zom
  have ho:=Xkv (nbI (l.take k)) (l.getD k 0).toNat Zom (by have:=UInt8.toNat_lt (l.getD k 0);omega)
  have hb:=UInt8.toNat_lt (l.getD k 0)
  refine Qd ?_
  refine ⟨k + 1,by omega,⟨[],?_⟩,by omega⟩
  refine Qg @hs ?_
  have m3:(2:Int) ^ min 8 64=256:=by decide
  rw[m3,ho]
 ·have:k=l.length:=by omega
  subst this
  exact Qs
structure PutI where
 k:Nat
 l:List UInt8
theorem Qx (gl:Nat→AV) (l:List UInt8) (v:Int) (n:Nat) (hn:n≤8) (hl:l.length≤100000000) :
  GS Tryz.prog gl 119 [.sl 1 0 0 l.length l.length,.int .i64 v,.int .i64 n] [(0,.cells (Xk l))] 1 (.sl 1 1 0 (l.length + n) (l.length + n)) [(1,.cells (Xk (l++be v n)))] 2:=by
 refine Qk9.gs (of_decide_eq_true rfl) (by simp[Bk.live]) fun c hgh hg=>?_
 conv in tcO _ _=>cbv
 refine Qd ?_
 refine Uq (fun x:PutI=>x.k≤n∧x.l++be v x.k=l++be v n) (fun x=>⟨[(0,.sl 1 1 0 x.l.length x.l.length),(1,.int .i64 v),(7,.int .i64 ((x.k:Int) - 1))],[(1,.cells (Xk x.l))],2⟩) (fun x=>x.k) Qk9.mixed 1 hgh
  ⟨⟨n,l⟩,⟨Nat.le_refl _,rfl⟩,[(1,0)],by exact Qs⟩ fun ⟨k,l'⟩ ⟨hk,he⟩=>?_
 dsimp only at hk he
 refine Qd ?_
 have hll:l'.length + k=l.length + n:=by
  have:=congrArg List.length he
  simpa [Qh] using this
 (refine Qa (fun h1=>?_) (fun h1=>?_)<;>try exact h1.elim)
 ·obtain ⟨k,rfl⟩:∃ j,k=j + 1:=⟨k - 1,by omega⟩
  have e1:(((k + 1:Nat):Int) - 1)=k:=by omega
  rw[e1]at h1 ⊢
  refine Qd ?_
  refine Jh ?_
  refine Jh ?_
  refine ⟨⟨k,l'++[Qf v k]⟩,⟨by dsimp only;omega,?_⟩,⟨[(1,3)],?_⟩,by dsimp only;omega⟩
  ·simpa [be] using he
  ·refine Qd ?_
   rfl
 ·have hk0:k=0:=by omega
  subst hk0
  simp only[be,List.append_nil]at he
  subst he
  refine Qd ?_
  refine ⟨[],?_⟩
  exact Qq @Qh
structure PutN where
 k:Nat
 l:Option (List UInt8)
theorem Jz (gl:Nat→AV) (v:Int) (n:Nat) (hn:n≤8) (h0:0 < n) :
  GS Tryz.prog gl 119 [.nils,.int .i64 v,.int .i64 n] [] 0 (.sl 1 0 0 n n) [(0,.cells (Xk (be v n)))] 1:=by
 refine Qk9.gs (of_decide_eq_true rfl) Zsi fun c hgh hg=>?_
 conv in tcO _ _=>cbv
 refine Qd ?_
 refine Uq (fun x:PutN=>x.k≤n∧(x.l.getD [])++be v x.k=be v n∧(x.l=none→x.k=n)) (fun x=>match x.l with|none=>⟨[(0,.nils),(1,.int .i64 v),(7,.int .i64 ((x.k:Int) - 1))],[],0⟩|some l=>⟨[(0,.sl 1 0 0 l.length l.length),(1,.int .i64 v),(7,.int .i64 ((x.k:Int) - 1))],[(0,.cells (Xk l))],1⟩) (fun x=>x.k) Qk9.mixed 0 hgh
  ⟨⟨n,none⟩,⟨Nat.le_refl _,rfl,fun _=>rfl⟩,[],by exact Qs⟩ fun ⟨k,o⟩ ⟨hk,he,hno⟩=>?_
 cases o with
 | none =>
  dsimp only at hk he hno
  obtain rfl:=hno rfl
  refine Qd ?_
  (refine Qa (fun h1=>?_) (fun h1=>?_)<;>try exact h1.elim)
  ·obtain ⟨k,rfl⟩:∃ j,k=j + 1:=⟨k - 1,by omega⟩
   have e1:(((k + 1:Nat):Int) - 1)=k:=by omega
   rw[e1]at h1 ⊢
   refine Qd ?_
   refine Jh ?_
   refine Jh ?_
   refine ⟨⟨k,some [Qf v k]⟩,⟨by dsimp only;omega,?_,fun h=>by cases h⟩,⟨[(0,1)],?_⟩,by dsimp only;omega⟩
   ·simp[be]
   ·refine Qd ?_
    exact Qhj [] _ []
  ·omega
 | some l' =>
  dsimp only[Option.getD_some]at hk he hno
  have hll:l'.length + k=n:=by
   have:=congrArg List.length he
   simpa [Qh] using this
  refine Qd ?_
  (refine Qa (fun h1=>?_) (fun h1=>?_)<;>try exact h1.elim)
  ·obtain ⟨k,rfl⟩:∃ j,k=j + 1:=⟨k - 1,by omega⟩
   have e1:(((k + 1:Nat):Int) - 1)=k:=by omega
   rw[e1]at h1 ⊢
   refine Qd ?_
   refine Jh ?_
   refine Jh ?_
   refine ⟨⟨k,some (l'++[Qf v k])⟩,⟨by dsimp only;omega,?_,fun h=>by cases h⟩,⟨[(0,2)],?_⟩,by dsimp only;omega⟩
   ·simpa [be] using he
   ·refine Qd ?_
    rfl
  ·have hk0:k=0:=by omega
   subst hk0
   simp only[be,List.append_nil]at he
   subst he
   refine Qd ?_
   refine ⟨[],?_⟩
   exact Qq @Qh
theorem Xse (p:Pk):[p.frm,p.dst,p.seq,p.ack].all (inW 4294967295)=true ↔ (0≤p.frm∧p.frm≤4294967295)∧(0≤p.dst∧p.dst≤4294967295)∧(0≤p.seq∧p.seq≤4294967295)∧(0≤p.ack∧p.ack≤4294967295):=by
 simp[inW]
theorem Xoe (p:Pk):[p.sport,p.dport,p.id,p.win].all (inW 65535)=true ↔ (0≤p.sport∧p.sport≤65535)∧(0≤p.dport∧p.dport≤65535)∧(0≤p.id∧p.id≤65535)∧(0≤p.win∧p.win≤65535):=by
 simp[inW]
theorem Xgn (p:Pk):Kc p ↔ [p.frm,p.dst,p.seq,p.ack].all (inW 4294967295)=true∧[p.sport,p.dport,p.id,p.win].all (inW 65535)=true∧(1≤p.ttl∧p.ttl≤255)∧(0≤p.flags∧p.flags≤63):=by
 rw[Xse,Xoe];unfold Kc
 constructor
 ·rintro ⟨a,b,c,d,e,f,g,h,i,j⟩;exact ⟨⟨a,b,c,d⟩,⟨e,f,g,h⟩,i,j⟩
 ·rintro ⟨⟨a,b,c,d⟩,⟨e,f,g,h⟩,i,j⟩;exact ⟨a,b,c,d,e,f,g,h,i,j⟩
theorem Xvx {p:Pk} (h:¬ (p.proto=1∨p.proto=6∨p.proto=17)):Yw p=4:=by unfold Yw;rw[if_pos h]
theorem Xou {p:Pk} (h:p.proto=1∨p.proto=6∨p.proto=17) (h2:¬ Kc p):Yw p=2:=by unfold Yw;rw[if_neg (fun x=>x h),if_pos h2]
theorem Xw6 {p:Pk} (h:p.proto=1∨p.proto=6∨p.proto=17) (h2:Kc p) (h3:64 < p.body.length):Yw p=5:=by unfold Yw;rw[if_neg (fun x=>x h),if_neg (fun x=>x h2),if_pos h3]
theorem Xve {p:Pk} (h:p.proto=1∨p.proto=6∨p.proto=17) (h2:Kc p) (h3:¬ 64 < p.body.length) (h4:Qd6 p):Yw p=1:=by unfold Yw;rw[if_neg (fun x=>x h),if_neg (fun x=>x h2),if_neg h3,if_pos h4]
set_option maxHeartbeats 4000000 in
set_option maxRecDepth 20000 in
theorem Qbh (gl:Nat→AV) (p:Pk):PS Tryz.prog gl 37 [.agg p.enc] (.int .i64 (Yw p)):=by
 refine Xrh.ps (of_decide_eq_true rfl) (by simp[Qe]) fun c hN hg=>?_
 conv in tcO _ _=>cbv
 unfold Pk.enc
 have hR:=Xgn p
 have hl:=Xa2 c.gl [p.frm,p.dst,p.seq,p.ack] Zsi
 have hw:=Qpa c.gl [p.sport,p.dport,p.id,p.win] Zsi
 generalize hL:[p.frm,p.dst,p.seq,p.ack].all (inW 4294967295)=L at *
 generalize hW:[p.sport,p.dport,p.id,p.win].all (inW 65535)=W at *
 have k1:=@Xvx p
 have k2:=@Xou p
 have k3:=@Xw6 p
 have k4:=@Xve p
 have k5:=@Qtw p
 generalize Yw p=E at *
 generalize hRp:Kc p=RP at *
 unfold Qd6 at k4 k5
 obtain ⟨proto,frm,sport,dst,dport,ttl,id,flags,seq,ack,win,body⟩:=p
 dsimp only at *
 refine Qd ?_
 (refine Qa (fun h1=>?_) (fun h1=>?_)<;>try exact h1.elim)
 ·exact Qs
 have hp:proto=1∨proto=6∨proto=17:=by omega
 have bad:¬ RP→E=2:=fun h=>k2 hp h
 cases L with
 | false =>
  refine Qd ?_
  refine Jh ?_
  ((first|apply Wg|apply Ke)<;>(first|exact hl|(with_reducible (exact Jm.bool _))|(refine XG ?_;first|exact rfl|exact True.intro|((try (repeat' with_reducible refine And.intro ?_ ?_));(try any_goals (first|refine zm ?_|exact CL|fail))))))
  ((first|apply Yd|apply Xu)<;>(refine XG ?_;first|exact rfl|exact True.intro|((try (repeat' with_reducible refine And.intro ?_ ?_));(try any_goals (first|refine zm ?_|exact CL|fail)))))
  ((first|apply Yd|apply Xu)<;>(refine XG ?_;first|exact rfl|exact True.intro|((try (repeat' with_reducible refine And.intro ?_ ?_));(try any_goals (first|refine zm ?_|exact CL|fail)))))
  (refine Qa (fun h2=>?_) (fun h2=>?_)<;>try exact h2.elim)
  refine Qd ?_
  exact (bad (fun h=>by simp[hR]at h)).symm
 | true =>
  cases W with
  | false =>
   refine Qd ?_
   refine Jh ?_
   ((first|apply Wg|apply Ke)<;>(first|exact hl|(with_reducible (exact Jm.bool _))|(refine XG ?_;first|exact rfl|exact True.intro|((try (repeat' with_reducible refine And.intro ?_ ?_));(try any_goals (first|refine zm ?_|exact CL|fail))))))
   ((refine Qg9 ?_ ?_ ?_);(focus (refine XG ?_;try first|exact rfl|exact True.intro));(focus (refine XG ?_;try trivial)))
   refine Jh ?_
   ((first|apply Wg|apply Ke)<;>(first|exact hw|(with_reducible (exact Jm.bool _))|(refine XG ?_;first|exact rfl|exact True.intro|((try (repeat' with_reducible refine And.intro ?_ ?_));(try any_goals (first|refine zm ?_|exact CL|fail))))))
   (refine Qa (fun h2=>?_) (fun h2=>?_)<;>try exact h2.elim)
   refine Qd ?_
   exact (bad (fun h=>by simp[hR]at h)).symm
  | true =>
   refine Qd ?_
   refine Jh ?_
   ((first|apply Wg|apply Ke)<;>(first|exact hl|(with_reducible (exact Jm.bool _))|(refine XG ?_;first|exact rfl|exact True.intro|((try (repeat' with_reducible refine And.intro ?_ ?_));(try any_goals (first|refine zm ?_|exact CL|fail))))))
   ((refine Qg9 ?_ ?_ ?_);(focus (refine XG ?_;try first|exact rfl|exact True.intro));(focus (refine XG ?_;try trivial)))
   refine Jh ?_
   ((first|apply Wg|apply Ke)<;>(first|exact hw|(with_reducible (exact Jm.bool _))|(refine XG ?_;first|exact rfl|exact True.intro|((try (repeat' with_reducible refine And.intro ?_ ?_));(try any_goals (first|refine zm ?_|exact CL|fail))))))
   (refine Qa (fun h2=>?_) (fun h2=>?_)<;>try exact h2.elim)
   ·refine Qd ?_
    exact (bad (fun h=>by have:=hR.1 h;omega)).symm
   have hRP:RP:=hR.2 ⟨rfl,rfl,by omega,by omega⟩
   refine Qd ?_
   (refine Qa (fun h3=>?_) (fun h3=>?_)<;>try exact h3.elim)
   ·refine Qd ?_
    exact (k3 hp hRP Zom).symm
   rcases hp with rfl|rfl|rfl
   ·refine Qd ?_
    (refine Qa (fun h4=>?_) (fun h4=>?_)<;>try exact h4.elim)
    ·refine Qd ?_
     exact (k4 (.inl rfl) hRP Zom Zom).symm
    by_cases h6:flags=8
    ·subst h6
     refine Qd ?_
     (refine Qa (fun h7=>?_) (fun h7=>?_)<;>try exact h7.elim)
     ·refine Qd ?_
      exact (k4 (.inl rfl) hRP Zom Zom).symm
     ·refine Qd ?_
      exact (k5 (.inl rfl) hRP Zom Zom).symm
    ·by_cases h8:flags=0
     ·subst h8
      refine Qd ?_
      (refine Qa (fun h7=>?_) (fun h7=>?_)<;>try exact h7.elim)
      ·refine Qd ?_
       exact (k4 (.inl rfl) hRP Zom Zom).symm
      ·refine Qd ?_
       exact (k5 (.inl rfl) hRP Zom Zom).symm
     ·have g6:(flags != 8)=true:=by simp[h6]
      have g8:(flags != 0)=true:=by simp[h8]
      refine Qg (An @g6 @g8) ?_
      (refine Qa (fun h7=>?_) (fun h7=>?_)<;>try exact h7.elim)
      refine Qd ?_
      exact (k4 (.inl rfl) hRP Zom Zom).symm
   ·refine Qd ?_
    (refine Qa (fun h4=>?_) (fun h4=>?_)<;>try exact h4.elim)
    refine Qd ?_
    (refine Qa (fun h7=>?_) (fun h7=>?_)<;>try exact h7.elim)
    refine Qd ?_
    exact (k5 (.inr (.inl rfl)) hRP Zom Zom).symm
   ·refine Qd ?_
    (refine Qa (fun h4=>?_) (fun h4=>?_)<;>try exact h4.elim)
    ·refine Qd ?_
     exact (k4 (.inr (.inr rfl)) hRP Zom Zom).symm
    ·refine Qd ?_
     (refine Qa (fun h7=>?_) (fun h7=>?_)<;>try exact h7.elim)
     refine Qd ?_
     exact (k5 (.inr (.inr rfl)) hRP Zom Zom).symm
theorem Xta (v:Int):[UInt8.ofNat (IntKind.u8.wrap v).toNat]=be v 1:=by
 show _=[Qf v 0]
 unfold Qf
 have:v.fdiv (2 ^ min (8 * ((0:Nat):Int)).toNat 64)=v:=Int.fdiv_one v
 rw[this]
theorem Xhg (l:List UInt8) (i:Nat) (n:Int):(Xk l).set i (.int .u8 (IntKind.u8.wrap n))=Xk (l.set i (UInt8.ofNat (IntKind.u8.wrap n).toNat)):=by
 have h0:0≤IntKind.u8.wrap n∧IntKind.u8.wrap n < 256:=by rw[IntKind.wrap_u8];omega
 generalize IntKind.u8.wrap n=k at h0 ⊢
 have e:(.int .u8 k:AV)=.int .u8 (UInt8.ofNat k.toNat).toNat:=by simp;omega
 rw[e,Xk,Xk,List.map_set]
theorem Xz6 (v:Int):UInt8.ofNat (IntKind.u8.wrap (v.fdiv (2 ^ min 8 64))).toNat=Qf v 1:=rfl
theorem Qei (v:Int):UInt8.ofNat (IntKind.u8.wrap v).toNat=Qf v 0:=by
 have:=Xta v
 simp only[be,List.cons.injEq,and_true]at this;exact this
attribute [go_sem] Xhg Xz6
theorem Qz7 (A Z:List UInt8) (a b x y:UInt8):((A++[a,b]++Z).set A.length x).set (A.length + 1) y=A++[x,y]++Z:=by
 rw[List.append_assoc,List.set_append_right _ _ (Nat.le_refl _),List.set_append_right _ _ Zom]
 simp
theorem Xo5 (A Z:List UInt8) (hA:A.length=10) (v:Int):((A++be 0 2++Z).set 10 (Qf v 1)).set 11 (Qf v 0)=A++be v 2++Z:=by
 rw[Qn5]
 have:=Qz7 A Z 0 0 (Qf v 1) (Qf v 0)
 rw[hA]at this
 exact this
set_option maxHeartbeats 2000000 in
theorem Jd (gl:Nat→AV) (proto frm dst ttl id n:Int) (hn:0≤n∧n≤1000) :
  GS Tryz.prog gl 121 [.int .i64 proto,.int .i64 frm,.int .i64 dst,.int .i64 ttl,.int .i64 id,.int .i64 n] [] 0 (.sl 1 0 0 20 20) [(0,.cells (Xk (Qaj proto frm dst ttl id n)))] 1:=by
 refine Xs4.gs (of_decide_eq_true rfl) Zsi fun c hgh hg=>?_
 conv in tcO _ _=>cbv
 obtain ⟨p2,hp2⟩:∃ p2:List UInt8,p2=[69,0]:=⟨_,rfl⟩
 have hl2:p2.length=2:=by rw[hp2];rfl
 have lit:[.int .u8 69,.int .u8 0]=Xk p2:=by rw[hp2];rfl
 have hset:∀ v,((p2++be (20 + n) 2++be id 2++be 0 2++be ttl 1++be proto 1++be 0 2++be frm 4++be dst 4).set 10 (Qf v 1)).set 11 (Qf v 0)=hdA proto ttl id n++be v 2++hdZ frm dst:=fun v=>by
  have:=Xo5 (hdA proto ttl id n) (hdZ frm dst) (Qo5 _ _ _ _) v
  rw[← this,hp2];unfold hdA hdZ;rw[Qn5];simp only[List.append_assoc]
 have hck:Zl (p2++be (20 + n) 2++be id 2++be 0 2++be ttl 1++be proto 1++be 0 2++be frm 4++be dst 4)=Zl (hdA proto ttl id n++[0,0]++hdZ frm dst):=by
  unfold hdA hdZ;rw[Qn5,hp2];simp only[List.append_assoc]
 have hlen:(p2++be (20 + n) 2++be id 2++be 0 2++be ttl 1++be proto 1++be 0 2++be frm 4++be dst 4).length=20:=by simp[Qh,hl2]
 have t8:(p2++be (20 + n) 2++be id 2++be 0 2).take 8=p2++be (20 + n) 2++be id 2++be 0 2:=List.take_of_length_le (by simp[Qh,hl2])
 have hC:=Qfp c.gl (p2++be (20 + n) 2++be id 2++be 0 2++be ttl 1++be proto 1++be 0 2++be frm 4++be dst 4) (by rw[hlen];decide)
 have hL:=Qbc (p2++be (20 + n) 2++be id 2++be 0 2++be ttl 1++be proto 1++be 0 2++be frm 4++be dst 4)
 refine Qd ?_
 refine Jh ?_
 ((first|refine Qy (ins:=[0]) (Qx c.gl p2 (20 + n) 2 (by decide) (by omega)) ?_ ?_|refine Qv (ins:=[0]) (Qx c.gl p2 (20 + n) 2 (by decide) (by omega)) ?_ ?_|refine Qu (ins:=[0]) (Qx c.gl p2 (20 + n) 2 (by decide) (by omega)) ?_ ?_|refine Qr (ins:=[0]) (Qx c.gl p2 (20 + n) 2 (by decide) (by omega)) ?_ ?_)<;>(have zf1:=@Qh;have zf2:=@lit;have zf3:=@hl2;refine XG ?_;clear zf1 zf2 zf3;(try first|exact rfl|exact True.intro);((try (repeat' with_reducible refine And.intro ?_ ?_));(try any_goals (first|refine zm ?_|exact CL|fail)))))
 ((first|refine Qy (ins:=[1]) (Qx c.gl (p2++be (20 + n) 2) id 2 (by decide) (by simp[Qh,hl2])) ?_ ?_|refine Qv (ins:=[1]) (Qx c.gl (p2++be (20 + n) 2) id 2 (by decide) (by simp[Qh,hl2])) ?_ ?_|refine Qu (ins:=[1]) (Qx c.gl (p2++be (20 + n) 2) id 2 (by decide) (by simp[Qh,hl2])) ?_ ?_|refine Qr (ins:=[1]) (Qx c.gl (p2++be (20 + n) 2) id 2 (by decide) (by simp[Qh,hl2])) ?_ ?_)<;>(have zf1:=@Qh;have zf2:=@hl2;refine XG ?_;clear zf1 zf2;(try first|exact rfl|exact True.intro);((try (repeat' with_reducible refine And.intro ?_ ?_));(try any_goals (first|refine zm ?_|exact CL|fail)))))
 ((first|refine Qy (ins:=[2]) (Qx c.gl (p2++be (20 + n) 2++be id 2) 0 2 (by decide) (by simp[Qh,hl2])) ?_ ?_|refine Qv (ins:=[2]) (Qx c.gl (p2++be (20 + n) 2++be id 2) 0 2 (by decide) (by simp[Qh,hl2])) ?_ ?_|refine Qu (ins:=[2]) (Qx c.gl (p2++be (20 + n) 2++be id 2) 0 2 (by decide) (by simp[Qh,hl2])) ?_ ?_|refine Qr (ins:=[2]) (Qx c.gl (p2++be (20 + n) 2++be id 2) 0 2 (by decide) (by simp[Qh,hl2])) ?_ ?_)<;>(have zf1:=@Qh;have zf2:=@hl2;refine XG ?_;clear zf1 zf2;(try first|exact rfl|exact True.intro);((try (repeat' with_reducible refine And.intro ?_ ?_));(try any_goals (first|refine zm ?_|exact CL|fail)))))
 refine Zr (An @Qh @hl2) ?_
 refine Zr (An @Qh (An @Xta (An @hl2 @t8))) ?_
 ((first|refine Qy (ins:=[5]) (Qx c.gl (p2++be (20 + n) 2++be id 2++be 0 2++be ttl 1++be proto 1) 0 2 (by decide) (by simp[Qh,hl2])) ?_ ?_|refine Qv (ins:=[5]) (Qx c.gl (p2++be (20 + n) 2++be id 2++be 0 2++be ttl 1++be proto 1) 0 2 (by decide) (by simp[Qh,hl2])) ?_ ?_|refine Qu (ins:=[5]) (Qx c.gl (p2++be (20 + n) 2++be id 2++be 0 2++be ttl 1++be proto 1) 0 2 (by decide) (by simp[Qh,hl2])) ?_ ?_|refine Qr (ins:=[5]) (Qx c.gl (p2++be (20 + n) 2++be id 2++be 0 2++be ttl 1++be proto 1) 0 2 (by decide) (by simp[Qh,hl2])) ?_ ?_)<;>(have zf1:=@Qh;have zf2:=@hl2;refine XG ?_;clear zf1 zf2;(try first|exact rfl|exact True.intro);((try (repeat' with_reducible refine And.intro ?_ ?_));(try any_goals (first|refine zm ?_|exact CL|fail)))))
 ((first|refine Qy (ins:=[6]) (Qx c.gl (p2++be (20 + n) 2++be id 2++be 0 2++be ttl 1++be proto 1++be 0 2) frm 4 (by decide) (by simp[Qh,hl2])) ?_ ?_|refine Qv (ins:=[6]) (Qx c.gl (p2++be (20 + n) 2++be id 2++be 0 2++be ttl 1++be proto 1++be 0 2) frm 4 (by decide) (by simp[Qh,hl2])) ?_ ?_|refine Qu (ins:=[6]) (Qx c.gl (p2++be (20 + n) 2++be id 2++be 0 2++be ttl 1++be proto 1++be 0 2) frm 4 (by decide) (by simp[Qh,hl2])) ?_ ?_|refine Qr (ins:=[6]) (Qx c.gl (p2++be (20 + n) 2++be id 2++be 0 2++be ttl 1++be proto 1++be 0 2) frm 4 (by decide) (by simp[Qh,hl2])) ?_ ?_)<;>(have zf1:=@Qh;have zf2:=@hl2;refine XG ?_;clear zf1 zf2;(try first|exact rfl|exact True.intro);((try (repeat' with_reducible refine And.intro ?_ ?_));(try any_goals (first|refine zm ?_|exact CL|fail)))))
 ((first|refine Qy (ins:=[7]) (Qx c.gl (p2++be (20 + n) 2++be id 2++be 0 2++be ttl 1++be proto 1++be 0 2++be frm 4) dst 4 (by decide) (by simp[Qh,hl2])) ?_ ?_|refine Qv (ins:=[7]) (Qx c.gl (p2++be (20 + n) 2++be id 2++be 0 2++be ttl 1++be proto 1++be 0 2++be frm 4) dst 4 (by decide) (by simp[Qh,hl2])) ?_ ?_|refine Qu (ins:=[7]) (Qx c.gl (p2++be (20 + n) 2++be id 2++be 0 2++be ttl 1++be proto 1++be 0 2++be frm 4) dst 4 (by decide) (by simp[Qh,hl2])) ?_ ?_|refine Qr (ins:=[7]) (Qx c.gl (p2++be (20 + n) 2++be id 2++be 0 2++be ttl 1++be proto 1++be 0 2++be frm 4) dst 4 (by decide) (by simp[Qh,hl2])) ?_ ?_)<;>(have zf1:=@Qh;have zf2:=@hl2;refine XG ?_;clear zf1 zf2;(try first|exact rfl|exact True.intro);((try (repeat' with_reducible refine And.intro ?_ ?_));(try any_goals (first|refine zm ?_|exact CL|fail)))))
 generalize hrow:p2++be (20 + n) 2++be id 2++be 0 2++be ttl 1++be proto 1++be 0 2++be frm 4++be dst 4=row at *
 have t20:row.take 20=row:=List.take_of_length_le Zom
 refine Xa hC (An @t20 @hlen) ?_
 refine Qg (An @t20 (An @hlen @Qei)) ?_
 rw[hset]
 refine ⟨[(0,8)],?_⟩
 refine Qd ?_
 unfold Qaj
 rw[hck]
theorem Qgb (gl:Nat→AV) (frm dst proto n:Int):PS Tryz.prog gl 75 [.int .i64 frm,.int .i64 dst,.int .i64 proto,.int .i64 n] (.str (be frm 4++be dst 4++be proto 2++be n 2)):=by
 refine Xaq.ps (of_decide_eq_true rfl) (by simp[Qe]) fun c hN hg=>?_
 conv in tcO _ _=>cbv
 refine Qd ?_
 ((first|refine Qy (ins:=[]) (Jz c.gl frm 4 (by decide) (by decide)) ?_ ?_|refine Qv (ins:=[]) (Jz c.gl frm 4 (by decide) (by decide)) ?_ ?_|refine Qu (ins:=[]) (Jz c.gl frm 4 (by decide) (by decide)) ?_ ?_|refine Qr (ins:=[]) (Jz c.gl frm 4 (by decide) (by decide)) ?_ ?_)<;>(have zf1:=@Qh;refine XG ?_;clear zf1;(try first|exact rfl|exact True.intro);((try (repeat' with_reducible refine And.intro ?_ ?_));(try any_goals (first|refine zm ?_|exact CL|fail)))))
 ((first|refine Qy (ins:=[0]) (Qx c.gl (be frm 4) dst 4 (by decide) (by simp[Qh])) ?_ ?_|refine Qv (ins:=[0]) (Qx c.gl (be frm 4) dst 4 (by decide) (by simp[Qh])) ?_ ?_|refine Qu (ins:=[0]) (Qx c.gl (be frm 4) dst 4 (by decide) (by simp[Qh])) ?_ ?_|refine Qr (ins:=[0]) (Qx c.gl (be frm 4) dst 4 (by decide) (by simp[Qh])) ?_ ?_)<;>(have zf1:=@Qh;refine XG ?_;clear zf1;(try first|exact rfl|exact True.intro);((try (repeat' with_reducible refine And.intro ?_ ?_));(try any_goals (first|refine zm ?_|exact CL|fail)))))
 ((first|refine Qy (ins:=[1]) (Qx c.gl (be frm 4++be dst 4) proto 2 (by decide) (by simp[Qh])) ?_ ?_|refine Qv (ins:=[1]) (Qx c.gl (be frm 4++be dst 4) proto 2 (by decide) (by simp[Qh])) ?_ ?_|refine Qu (ins:=[1]) (Qx c.gl (be frm 4++be dst 4) proto 2 (by decide) (by simp[Qh])) ?_ ?_|refine Qr (ins:=[1]) (Qx c.gl (be frm 4++be dst 4) proto 2 (by decide) (by simp[Qh])) ?_ ?_)<;>(have zf1:=@Qh;refine XG ?_;clear zf1;(try first|exact rfl|exact True.intro);((try (repeat' with_reducible refine And.intro ?_ ?_));(try any_goals (first|refine zm ?_|exact CL|fail)))))
 ((first|refine Qy (ins:=[2]) (Qx c.gl (be frm 4++be dst 4++be proto 2) n 2 (by decide) (by simp[Qh])) ?_ ?_|refine Qv (ins:=[2]) (Qx c.gl (be frm 4++be dst 4++be proto 2) n 2 (by decide) (by simp[Qh])) ?_ ?_|refine Qu (ins:=[2]) (Qx c.gl (be frm 4++be dst 4++be proto 2) n 2 (by decide) (by simp[Qh])) ?_ ?_|refine Qr (ins:=[2]) (Qx c.gl (be frm 4++be dst 4++be proto 2) n 2 (by decide) (by simp[Qh])) ?_ ?_)<;>(have zf1:=@Qh;refine XG ?_;clear zf1;(try first|exact rfl|exact True.intro);((try (repeat' with_reducible refine And.intro ?_ ?_));(try any_goals (first|refine zm ?_|exact CL|fail)))))
theorem Xx3 (A Z:List UInt8) (v:Int) (k:Nat) (hA:A.length=k):((A++[0,0]++Z).set k (Qf v 1)).set (k + 1) (Qf v 0)=A++be v 2++Z:=by
 subst hA;exact Qz7 A Z 0 0 (Qf v 1) (Qf v 0)
theorem Yao:be 0 4=[0,0]++[0,0]:=by decide
structure Seg (p:Pk) (k m:Nat) (row:List UInt8):Prop where
 len:row.length=m + p.body.length
 sn:Wh p=m + p.body.length
 set:∀ v,(row.set k (Qf v 1)).set (k + 1) (Qf v 0)=Qa2 p++be v 2++Qbd p
 chk:Zl (Zb p.proto p.frm p.dst (Wh p)++row)=Zl (Zb p.proto p.frm p.dst (Wh p)++Qa2 p++[0,0]++Qbd p)
theorem Seg.of {p:Pk} {k m:Nat} {row:List UInt8} (h:row=Qa2 p++[0,0]++Qbd p) (hk:(Qa2 p).length=k) (hm:k + 2 + (Qbd p).length=m + p.body.length):Seg p k m row:=by
 subst h
 refine ⟨by simp only[List.length_append,List.length_cons,List.length_nil];omega,by unfold Wh;omega,fun v=>Xx3 _ _ v k hk,by simp only[List.append_assoc]⟩
theorem Seg.ck {p:Pk} {k m:Nat} {row:List UInt8} (h:Seg p k m row):ckN p=if p.proto=17∧Zl (Zb p.proto p.frm p.dst (Wh p)++row)=0 then 65535 else Zl (Zb p.proto p.frm p.dst (Wh p)++row):=by
 unfold ckN;rw[h.chk]
set_option maxHeartbeats 8000000 in
set_option maxRecDepth 20000 in
theorem Xbk (gl:Nat→AV) (frm sport dst dport ttl id flags seq ack win:Int) (body:List UInt8) (h:Yw (⟨1,frm,sport,dst,dport,ttl,id,flags,seq,ack,win,body⟩:Pk)=0):PS Tryz.prog gl 71 [.agg (⟨1,frm,sport,dst,dport,ttl,id,flags,seq,ack,win,body⟩:Pk).enc] (.tup [.str (Yn (⟨1,frm,sport,dst,dport,ttl,id,flags,seq,ack,win,body⟩:Pk)),.int .i64 0]):=by
 refine Qg4.ps (of_decide_eq_true rfl) (by simp[Qe,nmAll]) fun c hN hg=>?_
 conv in tcO _ _=>cbv
 have hG:=Qbh c.gl (⟨1,frm,sport,dst,dport,ttl,id,flags,seq,ack,win,body⟩:Pk)
 rw[h]at hG
 obtain ⟨_,⟨r1,r2,r3,r4,r5,r6,r7,r8,r9,r10⟩,hbl,_⟩:=Qck h
 dsimp only at r1 r2 r3 r4 r5 r6 r7 r8 r9 r10 hbl
 clear h
 unfold Pk.enc at hG ⊢
 dsimp only at hG ⊢
 obtain ⟨p2,hp2⟩:∃ p2:List UInt8,p2=be flags 1++[0]:=⟨_,rfl⟩
 have hl2:p2.length=2:=by rw[hp2];rfl
 have lit:[.int .u8 flags,.int .u8 0]=Xk p2:=by
  have e:=Qhx flags Zom Zom
  rw[hp2]
  show _=[AV.int .u8 ((Qf flags 0).toNat:Int),AV.int .u8 0]
  rw[e]
 have hS:Seg (⟨1,frm,sport,dst,dport,ttl,id,flags,seq,ack,win,body⟩:Pk) 2 8 (p2++be 0 2++be (sport + dport) 2++be seq 2++body):=by
  refine .of (by rw[hp2,Qn5];unfold Qa2 Qbd;simp) (by simp[Qa2,Qh]) (by simp[Qbd,Qh];omega)
 have lr:(p2++be 0 2++be (sport + dport) 2++be seq 2).length=8:=by simp[Qh,hl2]
 have hm:=hS.len
 have hsn:=hS.sn
 dsimp only at hm hsn
 have tr:(p2++be 0 2++be (sport + dport) 2++be seq 2).take 8=p2++be 0 2++be (sport + dport) 2++be seq 2:=List.take_of_length_le Zom
 have hset:=hS.set
 have hfin:Yn (⟨1,frm,sport,dst,dport,ttl,id,flags,seq,ack,win,body⟩:Pk)=Qaj 1 frm dst ttl id ((8 + body.length:Nat):Int)++(((p2++be 0 2++be (sport + dport) 2++be seq 2++body).set 2 (Qf (ckN (⟨1,frm,sport,dst,dport,ttl,id,flags,seq,ack,win,body⟩:Pk)) 1)).set (2 + 1) (Qf (ckN (⟨1,frm,sport,dst,dport,ttl,id,flags,seq,ack,win,body⟩:Pk)) 0)):=by
  unfold Yn Uw;rw[hsn,hset]
 have hck:=hS.ck
 rw[hsn]at hck
 dsimp only at hck
 have hNl:((8 + body.length:Nat):Int)=8 + (body.length:Int):=by omega
 rw[hNl]at hck hfin
 rw[hfin]
 clear hfin hset hS hsn
 generalize ckN (⟨1,frm,sport,dst,dport,ttl,id,flags,seq,ack,win,body⟩:Pk)=ck at *
 have hl84:(Zb 1 frm dst (8 + (body.length:Int))++(p2++be 0 2++be (sport + dport) 2++be seq 2++body)).length≤200:=by
  unfold Zb;simp only[List.length_append]at hm ⊢;split<;>simp[Qh]<;>omega
 have hCk:=Qfp c.gl (Zb 1 frm dst (8 + (body.length:Int))++(p2++be 0 2++be (sport + dport) 2++be seq 2++body)) Zom
 have hKl:=Qbc (Zb 1 frm dst (8 + (body.length:Int))++(p2++be 0 2++be (sport + dport) 2++be seq 2++body))
 have hpre:Zb 1 frm dst (8 + (body.length:Int))=[]:=rfl
 rw[hpre]at hCk hck hKl
 clear hl84 hpre
 have hRl:(8:Int) + (body.length:Int)=((8 + body.length:Nat):Int):=by omega
 refine Qd ?_
 refine Yt hG ?_
 (refine Qa (fun g0=>?_) (fun g0=>?_)<;>try exact g0.elim)
 refine Qd ?_
 (refine Qa (fun g1=>?_) (fun g1=>?_)<;>try exact g1.elim)
 refine Qd ?_
 refine Jh ?_
 ((first|refine Qy (ins:=[1]) (Qx c.gl p2 0 2 (by decide) (by omega)) ?_ ?_|refine Qv (ins:=[1]) (Qx c.gl p2 0 2 (by decide) (by omega)) ?_ ?_|refine Qu (ins:=[1]) (Qx c.gl p2 0 2 (by decide) (by omega)) ?_ ?_|refine Qr (ins:=[1]) (Qx c.gl p2 0 2 (by decide) (by omega)) ?_ ?_)<;>(have zf1:=@Qh;have zf2:=@lit;have zf3:=@hl2;refine XG ?_;clear zf1 zf2 zf3;(try first|exact rfl|exact True.intro);((try (repeat' with_reducible refine And.intro ?_ ?_));(try any_goals (first|refine zm ?_|exact CL|fail)))))
 ((first|refine Qy (ins:=[2]) (Qx c.gl (p2++be 0 2) (sport + dport) 2 (by decide) (by simp[Qh,hl2])) ?_ ?_|refine Qv (ins:=[2]) (Qx c.gl (p2++be 0 2) (sport + dport) 2 (by decide) (by simp[Qh,hl2])) ?_ ?_|refine Qu (ins:=[2]) (Qx c.gl (p2++be 0 2) (sport + dport) 2 (by decide) (by simp[Qh,hl2])) ?_ ?_|refine Qr (ins:=[2]) (Qx c.gl (p2++be 0 2) (sport + dport) 2 (by decide) (by simp[Qh,hl2])) ?_ ?_)<;>(have zf1:=@Qh;have zf2:=@hl2;refine XG ?_;clear zf1 zf2;(try first|exact rfl|exact True.intro);((try (repeat' with_reducible refine And.intro ?_ ?_));(try any_goals (first|refine zm ?_|exact CL|fail)))))
 ((first|refine Qy (ins:=[3]) (Qx c.gl (p2++be 0 2++be (sport + dport) 2) seq 2 (by decide) (by simp[Qh,hl2])) ?_ ?_|refine Qv (ins:=[3]) (Qx c.gl (p2++be 0 2++be (sport + dport) 2) seq 2 (by decide) (by simp[Qh,hl2])) ?_ ?_|refine Qu (ins:=[3]) (Qx c.gl (p2++be 0 2++be (sport + dport) 2) seq 2 (by decide) (by simp[Qh,hl2])) ?_ ?_|refine Qr (ins:=[3]) (Qx c.gl (p2++be 0 2++be (sport + dport) 2) seq 2 (by decide) (by simp[Qh,hl2])) ?_ ?_)<;>(have zf1:=@Qh;have zf2:=@hl2;refine XG ?_;clear zf1 zf2;(try first|exact rfl|exact True.intro);((try (repeat' with_reducible refine And.intro ?_ ?_));(try any_goals (first|refine zm ?_|exact CL|fail)))))
 refine Zr (An @Qh (An @lr @tr)) ?_
 generalize hR:p2++be 0 2++be (sport + dport) 2++be seq 2++body=R at *
 have tR:R.take (8 + body.length)=R:=List.take_of_length_le Zom
 (refine Qa (fun g4=>?_) (fun g4=>?_)<;>try exact g4.elim)
 simp only[List.nil_append]at hck hCk hKl
 generalize Zl (R)=K at *
 refine Qd ?_
 refine Yt hCk ?_
 rw[if_neg Zom]at hck
 subst hck
 (refine Qa (fun g5=>?_) (fun g5=>?_)<;>try exact g5.elim)
 refine Qd ?_
 have h21:((2:Int) + 1).toNat=3:=rfl
 have hset:((R.set 2 (Qf ck 1)).set 3 (Qf ck 0)).length=8 + body.length:=by simp[hm]
 refine Qg (An @hm (An @Qei @h21)) ?_
 generalize hS:(R.set 2 (Qf ck 1)).set 3 (Qf ck 0)=S at *
 ((first|refine Qy (ins:=[]) (Jd c.gl 1 frm dst ttl id (8 + body.length) (by omega)) ?_ ?_|refine Qv (ins:=[]) (Jd c.gl 1 frm dst ttl id (8 + body.length) (by omega)) ?_ ?_|refine Qu (ins:=[]) (Jd c.gl 1 frm dst ttl id (8 + body.length) (by omega)) ?_ ?_|refine Qr (ins:=[]) (Jd c.gl 1 frm dst ttl id (8 + body.length) (by omega)) ?_ ?_)<;>(have zf1:=@hm;refine XG ?_;clear zf1;(try first|exact rfl|exact True.intro);((try (repeat' with_reducible refine And.intro ?_ ?_));(try any_goals (first|refine zm ?_|exact CL|fail)))))
 refine Zr (An @hset @Kf) ?_
 rw[List.take_of_length_le (by simp[Kf,hset])]
set_option maxHeartbeats 8000000 in
set_option maxRecDepth 20000 in
theorem Xhw (gl:Nat→AV) (frm sport dst dport ttl id flags seq ack win:Int) (body:List UInt8) (h:Yw (⟨17,frm,sport,dst,dport,ttl,id,flags,seq,ack,win,body⟩:Pk)=0):PS Tryz.prog gl 71 [.agg (⟨17,frm,sport,dst,dport,ttl,id,flags,seq,ack,win,body⟩:Pk).enc] (.tup [.str (Yn (⟨17,frm,sport,dst,dport,ttl,id,flags,seq,ack,win,body⟩:Pk)),.int .i64 0]):=by
 refine Qg4.ps (of_decide_eq_true rfl) (by simp[Qe,nmAll]) fun c hN hg=>?_
 conv in tcO _ _=>cbv
 have hG:=Qbh c.gl (⟨17,frm,sport,dst,dport,ttl,id,flags,seq,ack,win,body⟩:Pk)
 rw[h]at hG
 obtain ⟨_,⟨r1,r2,r3,r4,r5,r6,r7,r8,r9,r10⟩,hbl,_⟩:=Qck h
 dsimp only at r1 r2 r3 r4 r5 r6 r7 r8 r9 r10 hbl
 clear h
 unfold Pk.enc at hG ⊢
 dsimp only at hG ⊢
 have hS:Seg (⟨17,frm,sport,dst,dport,ttl,id,flags,seq,ack,win,body⟩:Pk) 6 8 (be sport 2++be dport 2++be (8 + body.length) 2++be 0 2++body):=by
  refine .of (by rw[Qn5];unfold Qa2 Qbd;simp) (by simp[Qa2,Qh]) (by simp[Qbd,Qh])
 have lr:(be sport 2++be dport 2++be (8 + body.length) 2++be 0 2).length=8:=by simp[Qh]
 have hm:=hS.len
 have hsn:=hS.sn
 dsimp only at hm hsn
 have tr:(be sport 2++be dport 2++be (8 + body.length) 2++be 0 2).take 8=be sport 2++be dport 2++be (8 + body.length) 2++be 0 2:=List.take_of_length_le Zom
 have hset:=hS.set
 have hfin:Yn (⟨17,frm,sport,dst,dport,ttl,id,flags,seq,ack,win,body⟩:Pk)=Qaj 17 frm dst ttl id ((8 + body.length:Nat):Int)++(((be sport 2++be dport 2++be (8 + body.length) 2++be 0 2++body).set 6 (Qf (ckN (⟨17,frm,sport,dst,dport,ttl,id,flags,seq,ack,win,body⟩:Pk)) 1)).set (6 + 1) (Qf (ckN (⟨17,frm,sport,dst,dport,ttl,id,flags,seq,ack,win,body⟩:Pk)) 0)):=by
  unfold Yn Uw;rw[hsn,hset]
 have hck:=hS.ck
 rw[hsn]at hck
 dsimp only at hck
 have hNl:((8 + body.length:Nat):Int)=8 + (body.length:Int):=by omega
 rw[hNl]at hck hfin
 rw[hfin]
 clear hfin hset hS hsn
 generalize ckN (⟨17,frm,sport,dst,dport,ttl,id,flags,seq,ack,win,body⟩:Pk)=ck at *
 have hl84:(Zb 17 frm dst (8 + (body.length:Int))++(be sport 2++be dport 2++be (8 + body.length) 2++be 0 2++body)).length≤200:=by
  unfold Zb;simp only[List.length_append]at hm ⊢;split<;>simp[Qh]<;>omega
 have hCk:=Qfp c.gl (Zb 17 frm dst (8 + (body.length:Int))++(be sport 2++be dport 2++be (8 + body.length) 2++be 0 2++body)) Zom
 have hKl:=Qbc (Zb 17 frm dst (8 + (body.length:Int))++(be sport 2++be dport 2++be (8 + body.length) 2++be 0 2++body))
 have hpre:Zb 17 frm dst (8 + (body.length:Int))=be frm 4++be dst 4++be 17 2++be (8 + (body.length:Int)) 2:=rfl
 rw[hpre]at hCk hck hKl
 clear hl84 hpre
 have hRl:(8:Int) + (body.length:Int)=((8 + body.length:Nat):Int):=by omega
 refine Qd ?_
 refine Yt hG ?_
 (refine Qa (fun g0=>?_) (fun g0=>?_)<;>try exact g0.elim)
 refine Qd ?_
 (refine Qa (fun g1=>?_) (fun g1=>?_)<;>try exact g1.elim)
 refine Qd ?_
 (refine Qa (fun g2=>?_) (fun g2=>?_)<;>try exact g2.elim)
 refine Qd ?_
 ((first|refine Qy (ins:=[]) (Jz c.gl sport 2 (by decide) (by decide)) ?_ ?_|refine Qv (ins:=[]) (Jz c.gl sport 2 (by decide) (by decide)) ?_ ?_|refine Qu (ins:=[]) (Jz c.gl sport 2 (by decide) (by decide)) ?_ ?_|refine Qr (ins:=[]) (Jz c.gl sport 2 (by decide) (by decide)) ?_ ?_)<;>(have zf1:=@Qh;refine XG ?_;clear zf1;(try first|exact rfl|exact True.intro);((try (repeat' with_reducible refine And.intro ?_ ?_));(try any_goals (first|refine zm ?_|exact CL|fail)))))
 ((first|refine Qy (ins:=[1]) (Qx c.gl (be sport 2) dport 2 (by decide) (by simp[Qh])) ?_ ?_|refine Qv (ins:=[1]) (Qx c.gl (be sport 2) dport 2 (by decide) (by simp[Qh])) ?_ ?_|refine Qu (ins:=[1]) (Qx c.gl (be sport 2) dport 2 (by decide) (by simp[Qh])) ?_ ?_|refine Qr (ins:=[1]) (Qx c.gl (be sport 2) dport 2 (by decide) (by simp[Qh])) ?_ ?_)<;>(have zf1:=@Qh;refine XG ?_;clear zf1;(try first|exact rfl|exact True.intro);((try (repeat' with_reducible refine And.intro ?_ ?_));(try any_goals (first|refine zm ?_|exact CL|fail)))))
 ((first|refine Qy (ins:=[2]) (Qx c.gl (be sport 2++be dport 2) (8 + body.length) 2 (by decide) (by simp[Qh])) ?_ ?_|refine Qv (ins:=[2]) (Qx c.gl (be sport 2++be dport 2) (8 + body.length) 2 (by decide) (by simp[Qh])) ?_ ?_|refine Qu (ins:=[2]) (Qx c.gl (be sport 2++be dport 2) (8 + body.length) 2 (by decide) (by simp[Qh])) ?_ ?_|refine Qr (ins:=[2]) (Qx c.gl (be sport 2++be dport 2) (8 + body.length) 2 (by decide) (by simp[Qh])) ?_ ?_)<;>(have zf1:=@Qh;refine XG ?_;clear zf1;(try first|exact rfl|exact True.intro);((try (repeat' with_reducible refine And.intro ?_ ?_));(try any_goals (first|refine zm ?_|exact CL|fail)))))
 ((first|refine Qy (ins:=[3]) (Qx c.gl (be sport 2++be dport 2++be (8 + body.length) 2) 0 2 (by decide) (by simp[Qh])) ?_ ?_|refine Qv (ins:=[3]) (Qx c.gl (be sport 2++be dport 2++be (8 + body.length) 2) 0 2 (by decide) (by simp[Qh])) ?_ ?_|refine Qu (ins:=[3]) (Qx c.gl (be sport 2++be dport 2++be (8 + body.length) 2) 0 2 (by decide) (by simp[Qh])) ?_ ?_|refine Qr (ins:=[3]) (Qx c.gl (be sport 2++be dport 2++be (8 + body.length) 2) 0 2 (by decide) (by simp[Qh])) ?_ ?_)<;>(have zf1:=@Qh;refine XG ?_;clear zf1;(try first|exact rfl|exact True.intro);((try (repeat' with_reducible refine And.intro ?_ ?_));(try any_goals (first|refine zm ?_|exact CL|fail)))))
 refine Zr (An @Qh (An @lr @tr)) ?_
 generalize hR:be sport 2++be dport 2++be (8 + body.length) 2++be 0 2++body=R at *
 have tR:R.take (8 + body.length)=R:=List.take_of_length_le Zom
 (refine Qa (fun g4=>?_) (fun g4=>?_)<;>try exact g4.elim)
 refine Qd ?_
 ((first|apply Yq|apply Ya|apply Xs|apply Xm)<;>(first|exact (Qgb _ frm dst 17 (8 + (body.length:Int)))|(have zf1:=@Qh;have zf2:=@hm;have zf3:=@tR;refine XG ?_;clear zf1 zf2 zf3;first|exact rfl|exact True.intro|((try (repeat' with_reducible refine And.intro ?_ ?_));(try any_goals (first|refine zm ?_|exact CL|fail))))))
 generalize Zl (be frm 4++be dst 4++be 17 2++be (8 + (body.length:Int)) 2++R)=K at *
 refine Yt hCk ?_
 by_cases hK0:K=0
 ·rw[if_pos ⟨rfl,hK0⟩]at hck
  have hcI:(ck:Int)=65535:=by omega
  rw[hcI]
  clear hck hcI ck
  subst hK0
  (refine Qa (fun g5=>?_) (fun g5=>?_)<;>try exact g5.elim)
  refine Qd ?_
  have h21:((6:Int) + 1).toNat=7:=rfl
  have hset:((R.set 6 (Qf 65535 1)).set 7 (Qf 65535 0)).length=8 + body.length:=by simp[hm]
  refine Qg (An @hm (An @Qei @h21)) ?_
  generalize hS:(R.set 6 (Qf 65535 1)).set 7 (Qf 65535 0)=S at *
  ((first|refine Qy (ins:=[]) (Jd c.gl 17 frm dst ttl id (8 + body.length) (by omega)) ?_ ?_|refine Qv (ins:=[]) (Jd c.gl 17 frm dst ttl id (8 + body.length) (by omega)) ?_ ?_|refine Qu (ins:=[]) (Jd c.gl 17 frm dst ttl id (8 + body.length) (by omega)) ?_ ?_|refine Qr (ins:=[]) (Jd c.gl 17 frm dst ttl id (8 + body.length) (by omega)) ?_ ?_)<;>(have zf1:=@hm;refine XG ?_;clear zf1;(try first|exact rfl|exact True.intro);((try (repeat' with_reducible refine And.intro ?_ ?_));(try any_goals (first|refine zm ?_|exact CL|fail)))))
  refine Zr (An @hset @Kf) ?_
  rw[List.take_of_length_le (by simp[Kf,hset])]
 ·rw[if_neg fun h=>hK0 h.2]at hck
  subst hck
  have hKb:((ck:Int) == 0)=false:=by simp;omega
  refine Qg @hKb ?_
  (refine Qa (fun g5=>?_) (fun g5=>?_)<;>try exact g5.elim)
  refine Qd ?_
  have h21:((6:Int) + 1).toNat=7:=rfl
  have hset:((R.set 6 (Qf ck 1)).set 7 (Qf ck 0)).length=8 + body.length:=by simp[hm]
  refine Qg (An @hm (An @Qei @h21)) ?_
  generalize hS:(R.set 6 (Qf ck 1)).set 7 (Qf ck 0)=S at *
  ((first|refine Qy (ins:=[]) (Jd c.gl 17 frm dst ttl id (8 + body.length) (by omega)) ?_ ?_|refine Qv (ins:=[]) (Jd c.gl 17 frm dst ttl id (8 + body.length) (by omega)) ?_ ?_|refine Qu (ins:=[]) (Jd c.gl 17 frm dst ttl id (8 + body.length) (by omega)) ?_ ?_|refine Qr (ins:=[]) (Jd c.gl 17 frm dst ttl id (8 + body.length) (by omega)) ?_ ?_)<;>(have zf1:=@hm;refine XG ?_;clear zf1;(try first|exact rfl|exact True.intro);((try (repeat' with_reducible refine And.intro ?_ ?_));(try any_goals (first|refine zm ?_|exact CL|fail)))))
  refine Zr (An @hset @Kf) ?_
  rw[List.take_of_length_le (by simp[Kf,hset])]
set_option maxHeartbeats 8000000 in
set_option maxRecDepth 20000 in
theorem Xnl (gl:Nat→AV) (frm sport dst dport ttl id flags seq ack win:Int) (body:List UInt8) (h:Yw (⟨6,frm,sport,dst,dport,ttl,id,flags,seq,ack,win,body⟩:Pk)=0):PS Tryz.prog gl 71 [.agg (⟨6,frm,sport,dst,dport,ttl,id,flags,seq,ack,win,body⟩:Pk).enc] (.tup [.str (Yn (⟨6,frm,sport,dst,dport,ttl,id,flags,seq,ack,win,body⟩:Pk)),.int .i64 0]):=by
 refine Qg4.ps (of_decide_eq_true rfl) (by simp[Qe,nmAll]) fun c hN hg=>?_
 conv in tcO _ _=>cbv
 have hG:=Qbh c.gl (⟨6,frm,sport,dst,dport,ttl,id,flags,seq,ack,win,body⟩:Pk)
 rw[h]at hG
 obtain ⟨_,⟨r1,r2,r3,r4,r5,r6,r7,r8,r9,r10⟩,hbl,_⟩:=Qck h
 dsimp only at r1 r2 r3 r4 r5 r6 r7 r8 r9 r10 hbl
 clear h
 unfold Pk.enc at hG ⊢
 dsimp only at hG ⊢
 obtain ⟨p2,hp2⟩:∃ p2:List UInt8,p2=[80]++be flags 1:=⟨_,rfl⟩
 have hl2:p2.length=2:=by rw[hp2];rfl
 have hS:Seg (⟨6,frm,sport,dst,dport,ttl,id,flags,seq,ack,win,body⟩:Pk) 16 20 (be sport 2++be dport 2++be seq 4++be ack 4++p2++be win 2++be 0 4++body):=by
  refine .of (by rw[hp2,Yao];unfold Qa2 Qbd;simp) (by simp[Qa2,Qh]) (by simp[Qbd,Qh];omega)
 have lit:∀ l:List UInt8,l++[UInt8.ofNat 80]++[UInt8.ofNat flags.toNat]=l++p2:=fun l=>by
  have e:=Qhx flags Zom Zom
  have e2:UInt8.ofNat flags.toNat=Qf flags 0:=UInt8.toNat_inj.1 (by simp only[UInt8.toNat_ofNat',Nat.reducePow];omega)
  rw[hp2,e2,List.append_assoc];rfl
 have lr:(be sport 2++be dport 2++be seq 4++be ack 4++p2++be win 2++be 0 4).length=20:=by simp[Qh,hl2]
 have t12:(be sport 2++be dport 2++be seq 4++be ack 4).take 12=be sport 2++be dport 2++be seq 4++be ack 4:=List.take_of_length_le (by simp[Qh])
 have hm:=hS.len
 have hsn:=hS.sn
 dsimp only at hm hsn
 have tr:(be sport 2++be dport 2++be seq 4++be ack 4++p2++be win 2++be 0 4).take 20=be sport 2++be dport 2++be seq 4++be ack 4++p2++be win 2++be 0 4:=List.take_of_length_le Zom
 have hset:=hS.set
 have hfin:Yn (⟨6,frm,sport,dst,dport,ttl,id,flags,seq,ack,win,body⟩:Pk)=Qaj 6 frm dst ttl id ((20 + body.length:Nat):Int)++(((be sport 2++be dport 2++be seq 4++be ack 4++p2++be win 2++be 0 4++body).set 16 (Qf (ckN (⟨6,frm,sport,dst,dport,ttl,id,flags,seq,ack,win,body⟩:Pk)) 1)).set (16 + 1) (Qf (ckN (⟨6,frm,sport,dst,dport,ttl,id,flags,seq,ack,win,body⟩:Pk)) 0)):=by
  unfold Yn Uw;rw[hsn,hset]
 have hck:=hS.ck
 rw[hsn]at hck
 dsimp only at hck
 have hNl:((20 + body.length:Nat):Int)=20 + (body.length:Int):=by omega
 rw[hNl]at hck hfin
 rw[hfin]
 clear hfin hset hS hsn
 generalize ckN (⟨6,frm,sport,dst,dport,ttl,id,flags,seq,ack,win,body⟩:Pk)=ck at *
 have hl84:(Zb 6 frm dst (20 + (body.length:Int))++(be sport 2++be dport 2++be seq 4++be ack 4++p2++be win 2++be 0 4++body)).length≤200:=by
  unfold Zb;simp only[List.length_append]at hm ⊢;split<;>simp[Qh]<;>omega
 have hCk:=Qfp c.gl (Zb 6 frm dst (20 + (body.length:Int))++(be sport 2++be dport 2++be seq 4++be ack 4++p2++be win 2++be 0 4++body)) Zom
 have hKl:=Qbc (Zb 6 frm dst (20 + (body.length:Int))++(be sport 2++be dport 2++be seq 4++be ack 4++p2++be win 2++be 0 4++body))
 have hpre:Zb 6 frm dst (20 + (body.length:Int))=be frm 4++be dst 4++be 6 2++be (20 + (body.length:Int)) 2:=rfl
 rw[hpre]at hCk hck hKl
 clear hl84 hpre
 have hRl:(20:Int) + (body.length:Int)=((20 + body.length:Nat):Int):=by omega
 refine Qd ?_
 refine Yt hG ?_
 (refine Qa (fun g0=>?_) (fun g0=>?_)<;>try exact g0.elim)
 refine Qd ?_
 (refine Qa (fun g1=>?_) (fun g1=>?_)<;>try exact g1.elim)
 refine Qd ?_
 (refine Qa (fun g2=>?_) (fun g2=>?_)<;>try exact g2.elim)
 refine Qd ?_
 (refine Qa (fun g3=>?_) (fun g3=>?_)<;>try exact g3.elim)
 refine Qd ?_
 ((first|refine Qy (ins:=[]) (Jz c.gl sport 2 (by decide) (by decide)) ?_ ?_|refine Qv (ins:=[]) (Jz c.gl sport 2 (by decide) (by decide)) ?_ ?_|refine Qu (ins:=[]) (Jz c.gl sport 2 (by decide) (by decide)) ?_ ?_|refine Qr (ins:=[]) (Jz c.gl sport 2 (by decide) (by decide)) ?_ ?_)<;>(have zf1:=@Qh;refine XG ?_;clear zf1;(try first|exact rfl|exact True.intro);((try (repeat' with_reducible refine And.intro ?_ ?_));(try any_goals (first|refine zm ?_|exact CL|fail)))))
 ((first|refine Qy (ins:=[1]) (Qx c.gl (be sport 2) dport 2 (by decide) (by simp[Qh])) ?_ ?_|refine Qv (ins:=[1]) (Qx c.gl (be sport 2) dport 2 (by decide) (by simp[Qh])) ?_ ?_|refine Qu (ins:=[1]) (Qx c.gl (be sport 2) dport 2 (by decide) (by simp[Qh])) ?_ ?_|refine Qr (ins:=[1]) (Qx c.gl (be sport 2) dport 2 (by decide) (by simp[Qh])) ?_ ?_)<;>(have zf1:=@Qh;refine XG ?_;clear zf1;(try first|exact rfl|exact True.intro);((try (repeat' with_reducible refine And.intro ?_ ?_));(try any_goals (first|refine zm ?_|exact CL|fail)))))
 ((first|refine Qy (ins:=[2]) (Qx c.gl (be sport 2++be dport 2) seq 4 (by decide) (by simp[Qh])) ?_ ?_|refine Qv (ins:=[2]) (Qx c.gl (be sport 2++be dport 2) seq 4 (by decide) (by simp[Qh])) ?_ ?_|refine Qu (ins:=[2]) (Qx c.gl (be sport 2++be dport 2) seq 4 (by decide) (by simp[Qh])) ?_ ?_|refine Qr (ins:=[2]) (Qx c.gl (be sport 2++be dport 2) seq 4 (by decide) (by simp[Qh])) ?_ ?_)<;>(have zf1:=@Qh;refine XG ?_;clear zf1;(try first|exact rfl|exact True.intro);((try (repeat' with_reducible refine And.intro ?_ ?_));(try any_goals (first|refine zm ?_|exact CL|fail)))))
 ((first|refine Qy (ins:=[3]) (Qx c.gl (be sport 2++be dport 2++be seq 4) ack 4 (by decide) (by simp[Qh])) ?_ ?_|refine Qv (ins:=[3]) (Qx c.gl (be sport 2++be dport 2++be seq 4) ack 4 (by decide) (by simp[Qh])) ?_ ?_|refine Qu (ins:=[3]) (Qx c.gl (be sport 2++be dport 2++be seq 4) ack 4 (by decide) (by simp[Qh])) ?_ ?_|refine Qr (ins:=[3]) (Qx c.gl (be sport 2++be dport 2++be seq 4) ack 4 (by decide) (by simp[Qh])) ?_ ?_)<;>(have zf1:=@Qh;refine XG ?_;clear zf1;(try first|exact rfl|exact True.intro);((try (repeat' with_reducible refine And.intro ?_ ?_));(try any_goals (first|refine zm ?_|exact CL|fail)))))
 refine Zr @Qh ?_
 refine Zr (An @Qh (An @t12 @lit)) ?_
 ((first|refine Qy (ins:=[6]) (Qx c.gl (be sport 2++be dport 2++be seq 4++be ack 4++p2) win 2 (by decide) (by simp[Qh,hl2])) ?_ ?_|refine Qv (ins:=[6]) (Qx c.gl (be sport 2++be dport 2++be seq 4++be ack 4++p2) win 2 (by decide) (by simp[Qh,hl2])) ?_ ?_|refine Qu (ins:=[6]) (Qx c.gl (be sport 2++be dport 2++be seq 4++be ack 4++p2) win 2 (by decide) (by simp[Qh,hl2])) ?_ ?_|refine Qr (ins:=[6]) (Qx c.gl (be sport 2++be dport 2++be seq 4++be ack 4++p2) win 2 (by decide) (by simp[Qh,hl2])) ?_ ?_)<;>(have zf1:=@Qh;have zf2:=@hl2;refine XG ?_;clear zf1 zf2;(try first|exact rfl|exact True.intro);((try (repeat' with_reducible refine And.intro ?_ ?_));(try any_goals (first|refine zm ?_|exact CL|fail)))))
 ((first|refine Qy (ins:=[7]) (Qx c.gl (be sport 2++be dport 2++be seq 4++be ack 4++p2++be win 2) 0 4 (by decide) (by simp[Qh,hl2])) ?_ ?_|refine Qv (ins:=[7]) (Qx c.gl (be sport 2++be dport 2++be seq 4++be ack 4++p2++be win 2) 0 4 (by decide) (by simp[Qh,hl2])) ?_ ?_|refine Qu (ins:=[7]) (Qx c.gl (be sport 2++be dport 2++be seq 4++be ack 4++p2++be win 2) 0 4 (by decide) (by simp[Qh,hl2])) ?_ ?_|refine Qr (ins:=[7]) (Qx c.gl (be sport 2++be dport 2++be seq 4++be ack 4++p2++be win 2) 0 4 (by decide) (by simp[Qh,hl2])) ?_ ?_)<;>(have zf1:=@Qh;have zf2:=@hl2;refine XG ?_;clear zf1 zf2;(try first|exact rfl|exact True.intro);((try (repeat' with_reducible refine And.intro ?_ ?_));(try any_goals (first|refine zm ?_|exact CL|fail)))))
 refine Zr (An @Qh (An @lr @tr)) ?_
 generalize hR:be sport 2++be dport 2++be seq 4++be ack 4++p2++be win 2++be 0 4++body=R at *
 have tR:R.take (20 + body.length)=R:=List.take_of_length_le Zom
 (refine Qa (fun g4=>?_) (fun g4=>?_)<;>try exact g4.elim)
 refine Qd ?_
 ((first|apply Yq|apply Ya|apply Xs|apply Xm)<;>(first|exact (Qgb _ frm dst 6 (20 + (body.length:Int)))|(have zf1:=@Qh;have zf2:=@hm;have zf3:=@tR;refine XG ?_;clear zf1 zf2 zf3;first|exact rfl|exact True.intro|((try (repeat' with_reducible refine And.intro ?_ ?_));(try any_goals (first|refine zm ?_|exact CL|fail))))))
 generalize Zl (be frm 4++be dst 4++be 6 2++be (20 + (body.length:Int)) 2++R)=K at *
 refine Yt hCk ?_
 rw[if_neg Zom]at hck
 subst hck
 (refine Qa (fun g5=>?_) (fun g5=>?_)<;>try exact g5.elim)
 refine Qd ?_
 have h21:((16:Int) + 1).toNat=17:=rfl
 have hset:((R.set 16 (Qf ck 1)).set 17 (Qf ck 0)).length=20 + body.length:=by simp[hm]
 refine Qg (An @hm (An @Qei @h21)) ?_
 generalize hS:(R.set 16 (Qf ck 1)).set 17 (Qf ck 0)=S at *
 ((first|refine Qy (ins:=[]) (Jd c.gl 6 frm dst ttl id (20 + body.length) (by omega)) ?_ ?_|refine Qv (ins:=[]) (Jd c.gl 6 frm dst ttl id (20 + body.length) (by omega)) ?_ ?_|refine Qu (ins:=[]) (Jd c.gl 6 frm dst ttl id (20 + body.length) (by omega)) ?_ ?_|refine Qr (ins:=[]) (Jd c.gl 6 frm dst ttl id (20 + body.length) (by omega)) ?_ ?_)<;>(have zf1:=@hm;refine XG ?_;clear zf1;(try first|exact rfl|exact True.intro);((try (repeat' with_reducible refine And.intro ?_ ?_));(try any_goals (first|refine zm ?_|exact CL|fail)))))
 refine Zr (An @hset @Kf) ?_
 rw[List.take_of_length_le (by simp[Kf,hset])]
theorem Xjy (gl:Nat→AV) (p:Pk) (h:Yw p≠0):PS Tryz.prog gl 71 [.agg p.enc] (.tup [.str [],.int .i64 (Yw p)]):=by
 refine Qg4.ps (of_decide_eq_true rfl) (by simp[Qe,nmAll]) fun c hN hg=>?_
 conv in tcO _ _=>cbv
 have hG:=Qbh c.gl p
 generalize Yw p=E at *
 unfold Pk.enc at hG ⊢
 refine Qd ?_
 refine Yt hG ?_
 (refine Qa (fun g0=>?_) (fun g0=>?_)<;>try exact g0.elim)
 ·exact Qs
 ·exact (h g0).elim
theorem Xqx (gl:Nat→AV) (p:Pk):PS Tryz.prog gl 71 [.agg p.enc] (Qts p):=by
 unfold Qts
 by_cases h:Yw p=0
 ·rw[if_pos h]
  have hp:=(Qck h).1
  rcases p with ⟨proto,frm,sport,dst,dport,ttl,id,flags,seq,ack,win,body⟩
  dsimp only at hp
  rcases hp with rfl|rfl|rfl
  ·exact Xbk gl frm sport dst dport ttl id flags seq ack win body h
  ·exact Xnl gl frm sport dst dport ttl id flags seq ack win body h
  ·exact Xhw gl frm sport dst dport ttl id flags seq ack win body h
 ·rw[if_neg h];exact Xjy gl p h
def G1 (f:List UInt8):Prop:=f.length < 20∨b1 f 0≠69∨w2 f 2≠f.length
def G2 (f:List UInt8):Prop:=ofN (f.take 20)≠65535
def G3 (f:List UInt8):Prop:=b1 f 1≠0∨w2 f 6≠0
def G4 (f:List UInt8):Prop:=b1 f 8=0
def G5 (f:List UInt8):Prop:=¬ (b1 f 9=1∨b1 f 9=6∨b1 f 9=17)
def G6 (f:List UInt8):Prop:=(f.drop 20).length < (if b1 f 9=6 then 20 else 8)
def G7 (f:List UInt8):Prop:=ofN (Zb (b1 f 9) (w4 f 12) (w4 f 16) (f.drop 20).length++f.drop 20)≠65535∨(b1 f 9=17∧w2 (f.drop 20) 6=0)
def G8 (f:List UInt8):Prop:=b1 f 9=1∧((b1 (f.drop 20) 0≠8∧b1 (f.drop 20) 0≠0)∨b1 (f.drop 20) 1≠0)
def G9 (f:List UInt8):Prop:=b1 f 9=17∧w2 (f.drop 20) 4≠(f.drop 20).length
def G10 (f:List UInt8):Prop:=b1 f 9=6∧(b1 (f.drop 20) 12≠80∨63 < b1 (f.drop 20) 13∨w2 (f.drop 20) 18≠0)
theorem rd1 {f:List UInt8} (h:G1 f):rdE f=1:=if_pos h
theorem rd2 {f:List UInt8} (h1:¬ G1 f) (h:G2 f):rdE f=3:=(if_neg h1).trans (if_pos h)
theorem rd3 {f:List UInt8} (h1:¬ G1 f) (h2:¬ G2 f) (h:G3 f):rdE f=4:=(if_neg h1).trans ((if_neg h2).trans (if_pos h))
theorem rd4 {f:List UInt8} (h1:¬ G1 f) (h2:¬ G2 f) (h3:¬ G3 f) (h:G4 f):rdE f=12:=(if_neg h1).trans ((if_neg h2).trans ((if_neg h3).trans (if_pos h)))
structure H4 (f:List UInt8):Prop where
 g1:¬ G1 f
 g2:¬ G2 f
 g3:¬ G3 f
 g4:¬ G4 f
theorem rd5 {f:List UInt8} (k:H4 f) (h:G5 f):rdE f=4:=(if_neg k.g1).trans ((if_neg k.g2).trans ((if_neg k.g3).trans ((if_neg k.g4).trans (if_pos h))))
theorem rd6 {f:List UInt8} (k:H4 f) (h5:¬ G5 f) (h:G6 f):rdE f=1:=(if_neg k.g1).trans ((if_neg k.g2).trans ((if_neg k.g3).trans ((if_neg k.g4).trans ((if_neg h5).trans (if_pos h)))))
structure H6 (f:List UInt8):Prop where
 g:H4 f
 g5:¬ G5 f
 g6:¬ G6 f
theorem rd7 {f:List UInt8} (k:H6 f) (h:G7 f):rdE f=3:=(if_neg k.g.g1).trans ((if_neg k.g.g2).trans ((if_neg k.g.g3).trans ((if_neg k.g.g4).trans ((if_neg k.g5).trans ((if_neg k.g6).trans (if_pos h))))))
theorem rd8 {f:List UInt8} (k:H6 f) (h7:¬ G7 f) (h:G8 f):rdE f=4:=(if_neg k.g.g1).trans ((if_neg k.g.g2).trans ((if_neg k.g.g3).trans ((if_neg k.g.g4).trans ((if_neg k.g5).trans ((if_neg k.g6).trans ((if_neg h7).trans (if_pos h)))))))
theorem rd9 {f:List UInt8} (k:H6 f) (h7:¬ G7 f) (h8:¬ G8 f) (h:G9 f):rdE f=1:=(if_neg k.g.g1).trans ((if_neg k.g.g2).trans ((if_neg k.g.g3).trans ((if_neg k.g.g4).trans ((if_neg k.g5).trans ((if_neg k.g6).trans ((if_neg h7).trans ((if_neg h8).trans (if_pos h))))))))
theorem Xbj {f:List UInt8} (k:H6 f) (h7:¬ G7 f) (h8:¬ G8 f) (h9:¬ G9 f) (h:G10 f):rdE f=4:=(if_neg k.g.g1).trans ((if_neg k.g.g2).trans ((if_neg k.g.g3).trans ((if_neg k.g.g4).trans ((if_neg k.g5).trans ((if_neg k.g6).trans ((if_neg h7).trans ((if_neg h8).trans ((if_neg h9).trans (if_pos h)))))))))
theorem Qtf {f:List UInt8} (k:H6 f) (h7:¬ G7 f) (h8:¬ G8 f) (h9:¬ G9 f) (h10:¬ G10 f):rdE f=Yw (rdK f):=(if_neg k.g.g1).trans ((if_neg k.g.g2).trans ((if_neg k.g.g3).trans ((if_neg k.g.g4).trans ((if_neg k.g5).trans ((if_neg k.g6).trans ((if_neg h7).trans ((if_neg h8).trans ((if_neg h9).trans (if_neg h10)))))))))
theorem Ql (l:List UInt8) (k:Nat):((l.getD k 0).toNat:Int)=b1 l k:=rfl
theorem Qe7 (l:List UInt8) (k:Nat):0≤b1 l k∧b1 l k≤255:=by unfold b1;have:=UInt8.toNat_lt (l.getD k 0);omega
theorem Yaw (l:List UInt8) (k:Nat) (h:k + 2≤l.length):0≤w2 l k∧w2 l k≤65535:=by unfold w2;have:=Xza _ (Xtc l k 2 h);omega
theorem Xek (l:List UInt8) (k:Nat) (h:k + 4≤l.length):0≤w4 l k∧w4 l k≤4294967295:=by unfold w4;have:=Xzo _ (Xtc l k 4 h);omega
theorem nw2 (gl:Nat→AV) (l:List UInt8) (k:Nat):PS Tryz.prog gl 73 [.str ((l.drop k).take 2)] (.int .i64 (w2 l k)):=Qq4 gl _ (by rw[List.length_take];omega)
theorem nw4 (gl:Nat→AV) (l:List UInt8) (k:Nat):PS Tryz.prog gl 73 [.str ((l.drop k).take 4)] (.int .i64 (w4 l k)):=Qq4 gl _ (by rw[List.length_take];omega)
theorem Xz {l:List UInt8} {e:Int} (h:rdE l=e) (he:e≠0):Wc l=.tup [.agg pk0.enc,.int .i64 e]:=by
 unfold Wc;rw[if_neg Zom,h]
theorem Qnu {l:List UInt8} (h:rdE l=0):Wc l=.tup [.agg (rdK l).enc,.int .i64 0]:=by
 unfold Wc;rw[if_pos h]
theorem Xq6 (l:List UInt8):Qe 0 (Wc l):=by
 unfold Wc;split<;>simp[Qe,nmAll,Pk.enc]
theorem Qgg {l:List UInt8} {e:Int} (p:Pk) (h:rdE l=e) (hp:rdK l=p):Wc l=if e=0 then .tup [.agg p.enc,.int .i64 0] else .tup [.agg pk0.enc,.int .i64 e]:=by
 unfold Wc;rw[h,hp]
set_option maxHeartbeats 16000000 in
set_option maxRecDepth 20000 in
theorem Qdl (gl:Nat→AV) (l:List UInt8) (hl:l.length≤140737488351232):PS Tryz.prog gl 34 [.str l] (Wc l):=by
 refine Xn5.ps (of_decide_eq_true rfl) (Xq6 l) fun c hN hg=>?_
 conv in tcO _ _=>cbv
 have c0:=Qe7 l 0
 have c1:=Qe7 l 1
 have c8:=Qe7 l 8
 have c9:=Qe7 l 9
 by_cases h1:l.length < 20
 ·have d1:decide ((l.length:Int) < 20)=true:=by simp;omega
  refine Qg @d1 ?_
  ((first|apply Yd|apply Xu)<;>(have zf1:=@d1;refine XG ?_;clear zf1;first|exact rfl|exact True.intro|((try (repeat' with_reducible refine And.intro ?_ ?_));(try any_goals (first|refine zm ?_|exact CL|fail)))))
  (refine Qa (fun g1=>?_) (fun g1=>?_)<;>try exact g1.elim)
  rw[Xz (rd1 (.inl h1)) Zde]
  refine Qg @Ql ?_
  exact Js (ip []) (Jv c.gl 1) (An @noT.eq_1 (An @pk0.eq_1 (An @Pk.enc.eq_1 @Ql)))
 have d1:decide ((l.length:Int) < 20)=false:=by simp;omega
 by_cases h2:b1 l 0=69
 rotate_left
 ·have h2b:(b1 l 0 != 69)=true:=by simp[h2]
  refine Qg (An @Ql (An @h2b @d1)) ?_
  ((first|apply Yd|apply Xu)<;>(have zf1:=@d1;refine XG ?_;clear zf1;first|exact rfl|exact True.intro|((try (repeat' with_reducible refine And.intro ?_ ?_));(try any_goals (first|refine zm ?_|exact CL|fail)))))
  (refine Qa (fun g1=>?_) (fun g1=>?_)<;>try exact g1.elim)
  rw[Xz (rd1 (.inr (.inl h2))) Zde]
  refine Qg @Ql ?_
  exact Js (ip []) (Jv c.gl 1) (An @noT.eq_1 (An @pk0.eq_1 (An @Pk.enc.eq_1 @Ql)))
 refine Qg (An @Ql (An @h2 @d1)) ?_
 ((first|apply Yq|apply Ya|apply Xs|apply Xm)<;>(first|exact (nw2 _ l 2)|(have zf1:=@Ql;have zf2:=@h2;refine XG ?_;clear zf1 zf2;first|exact rfl|exact True.intro|((try (repeat' with_reducible refine And.intro ?_ ?_));(try any_goals (first|refine zm ?_|exact CL|fail))))))
 (refine Qa (fun h3=>?_) (fun h3=>?_)<;>try exact h3.elim)
 ·rw[Xz (rd1 (.inr (.inr h3))) Zde]
  refine Qg @Ql ?_
  exact Js (ip []) (Jv c.gl 1) (An @noT.eq_1 (An @pk0.eq_1 (An @Pk.enc.eq_1 @Ql)))
 have k1:¬ G1 l:=by unfold G1;omega
 refine Qd ?_
 ((first|apply Yq|apply Ya|apply Xs|apply Xm)<;>(first|exact (Qe8 _ (l.take 20) (by rw[List.length_take];omega))|(refine XG ?_;first|exact rfl|exact True.intro|((try (repeat' with_reducible refine And.intro ?_ ?_));(try any_goals (first|refine zm ?_|exact CL|fail))))))
 (refine Qa (fun h4=>?_) (fun h4=>?_)<;>try exact h4.elim)
 ·rw[Xz (rd2 k1 (by unfold G2;omega)) Zde]
  refine Qg @Ql ?_
  exact Js (ip []) (Jv c.gl 3) (An @noT.eq_1 (An @pk0.eq_1 (An @Pk.enc.eq_1 @Ql)))
 have k2:¬ G2 l:=by unfold G2;omega
 by_cases h5:b1 l 1=0
 rotate_left
 ·have h5b:(b1 l 1 != 0)=true:=by simp[h5]
  refine Qg (An @Ql @h5b) ?_
  ((first|apply Yd|apply Xu)<;>(refine XG ?_;first|exact rfl|exact True.intro|((try (repeat' with_reducible refine And.intro ?_ ?_));(try any_goals (first|refine zm ?_|exact CL|fail)))))
  (refine Qa (fun g1=>?_) (fun g1=>?_)<;>try exact g1.elim)
  rw[Xz (rd3 k1 k2 (.inl h5)) Zde]
  refine Qg @Ql ?_
  exact Js (ip []) (Jv c.gl 4) (An @noT.eq_1 (An @pk0.eq_1 (An @Pk.enc.eq_1 @Ql)))
 refine Qg (An @Ql @h5) ?_
 ((first|apply Yq|apply Ya|apply Xs|apply Xm)<;>(first|exact (nw2 _ l 6)|(have zf1:=@Ql;have zf2:=@h5;refine XG ?_;clear zf1 zf2;first|exact rfl|exact True.intro|((try (repeat' with_reducible refine And.intro ?_ ?_));(try any_goals (first|refine zm ?_|exact CL|fail))))))
 (refine Qa (fun h6=>?_) (fun h6=>?_)<;>try exact h6.elim)
 ·rw[Xz (rd3 k1 k2 (.inr h6)) Zde]
  refine Qg @Ql ?_
  exact Js (ip []) (Jv c.gl 4) (An @noT.eq_1 (An @pk0.eq_1 (An @Pk.enc.eq_1 @Ql)))
 have k3:¬ G3 l:=by unfold G3;omega
 refine Qg @Ql ?_
 ((first|apply Yq|apply Ya|apply Xs|apply Xm)<;>(first|exact (nw4 _ l 12)|(have zf1:=@Ql;refine XG ?_;clear zf1;first|exact rfl|exact True.intro|((try (repeat' with_reducible refine And.intro ?_ ?_));(try any_goals (first|refine zm ?_|exact CL|fail))))))
 ((first|apply Yq|apply Ya|apply Xs|apply Xm)<;>(first|exact (nw4 _ l 16)|(have zf1:=@Ql;refine XG ?_;clear zf1;first|exact rfl|exact True.intro|((try (repeat' with_reducible refine And.intro ?_ ?_));(try any_goals (first|refine zm ?_|exact CL|fail))))))
 ((first|apply Yq|apply Ya|apply Xs|apply Xm)<;>(first|exact (nw2 _ l 4)|(have zf1:=@Ql;refine XG ?_;clear zf1;first|exact rfl|exact True.intro|((try (repeat' with_reducible refine And.intro ?_ ?_));(try any_goals (first|refine zm ?_|exact CL|fail))))))
 (refine Qa (fun h7=>?_) (fun h7=>?_)<;>try exact h7.elim)
 ·rw[Xz (rd4 k1 k2 k3 h7) Zde]
  refine Qg @Ql ?_
  exact Js (ip []) (Jv c.gl 12) (An @noT.eq_1 (An @pk0.eq_1 (An @Pk.enc.eq_1 @Ql)))
 have K:H4 l:=⟨k1,k2,k3,h7⟩
 clear k1 k2 k3
 have e4:0≤w4 l 12∧w4 l 12≤4294967295:=Xek _ _ Zom
 have e5:0≤w4 l 16∧w4 l 16≤4294967295:=Xek _ _ Zom
 have hsz:=Qhh c.gl (b1 l 9)
 by_cases h8:b1 l 9=1∨b1 l 9=6∨b1 l 9=17
 rotate_left
 ·have hz:Ur (b1 l 9)=.tup [.int .i64 0,.int .i64 0]:=by unfold Ur;rw[if_neg Zom,if_neg Zom,if_neg Zom]
  rw[hz]at hsz
  refine Qd ?_
  refine Yt hsz ?_
  (refine Qa (fun g1=>?_) (fun g1=>?_)<;>try exact g1.elim)
  rw[Xz (rd5 K h8) Zde]
  refine Qg @Ql ?_
  exact Js (ip []) (Jv c.gl 4) (An @noT.eq_1 (An @pk0.eq_1 (An @Pk.enc.eq_1 @Ql)))
 have k5:¬ G5 l:=fun h=>h h8
 generalize hs:l.drop 20=s
 have hsl:s.length=l.length - 20:=by rw[← hs,List.length_drop]
 have f0:=Qe7 s 0
 have f1:=Qe7 s 1
 have f12:=Qe7 s 12
 have f13:=Qe7 s 13
 rcases h8 with h9|h9|h9
 ·have hz:Ur (b1 l 9)=.tup [.int .i64 8,.int .i64 2]:=by rw[h9];rfl
  rw[hz,h9]at hsz
  rw[h9]
  clear hz
  refine Qg @hs ?_
  refine Yt hsz ?_
  (refine Qa (fun g1=>?_) (fun g1=>?_)<;>try exact g1.elim)
  refine Qd ?_
  (refine Qa (fun h10=>?_) (fun h10=>?_)<;>try exact h10.elim)
  ·rw[Xz (rd6 K k5 (by unfold G6;rw[hs,h9];simp;omega)) Zde]
   refine Qg @Ql ?_
   exact Js (ip []) (Jv c.gl 1) (An @noT.eq_1 (An @pk0.eq_1 (An @Pk.enc.eq_1 @Ql)))
  have K6:H6 l:=⟨K,k5,by unfold G6;rw[hs,h9];simp;omega⟩
  clear K k5
  have hO:=Qe8 c.gl s Zom
  have hG7:G7 l ↔ ofN s≠65535:=by unfold G7;rw[hs,h9];simp[Zb]
  generalize ofN s=O at *
  refine Qd ?_
  (refine Qa (fun g2=>?_) (fun g2=>?_)<;>try exact g2.elim)
  refine Qd ?_
  have k7:¬ G7 l∨(G7 l∧O≠65535):=by by_cases h:O=65535<;>simp[hG7,h]
  refine Yt hO ?_
  by_cases h11:O=65535
  rotate_left
  ·have d2:((O:Int) != 65535)=true:=by simp;omega
   refine Qg @d2 ?_
   ((first|apply Yd|apply Xu)<;>(have zf1:=@d2;refine XG ?_;clear zf1;first|exact rfl|exact True.intro|((try (repeat' with_reducible refine And.intro ?_ ?_));(try any_goals (first|refine zm ?_|exact CL|fail)))))
   (refine Qa (fun g3=>?_) (fun g3=>?_)<;>try exact g3.elim)
   rw[Xz (rd7 K6 (hG7.2 h11)) Zde]
   refine Qg @Ql ?_
   exact Js (ip []) (Jv c.gl 3) (An @noT.eq_1 (An @pk0.eq_1 (An @Pk.enc.eq_1 @Ql)))
  have d2:((O:Int) != 65535)=false:=by simp;omega
  have k7:¬ G7 l:=fun h=>hG7.1 h h11
  refine Qg @d2 ?_
  ((first|apply Yd|apply Xu)<;>(have zf1:=@d2;refine XG ?_;clear zf1;first|exact rfl|exact True.intro|((try (repeat' with_reducible refine And.intro ?_ ?_));(try any_goals (first|refine zm ?_|exact CL|fail)))))
  (refine Qa (fun g3=>?_) (fun g3=>?_)<;>try exact g3.elim)
  refine Qg @Ql ?_
  have k9:¬ G9 l:=fun h=>by have:=h.1;omega
  have k10:¬ G10 l:=fun h=>by have:=h.1;omega
  (refine Qa (fun g4=>?_) (fun g4=>?_)<;>try exact g4.elim)
  refine Qg @Ql ?_
  ((first|apply Yq|apply Ya|apply Xs|apply Xm)<;>(first|exact (nw2 _ s 6)|(have zf1:=@Ql;refine XG ?_;clear zf1;first|exact rfl|exact True.intro|((try (repeat' with_reducible refine And.intro ?_ ?_));(try any_goals (first|refine zm ?_|exact CL|fail))))))
  by_cases f8:b1 s 0=8
  ·have k8:G8 l ↔ b1 s 1≠0:=by unfold G8;rw[hs,h9];simp[f8]
   rw[f8]
   refine Qg (An @Ql @f8) ?_
   (refine Qa (fun h12=>?_) (fun h12=>?_)<;>try exact h12.elim)
   ·rw[Xz (rd8 K6 k7 (k8.2 h12)) Zde]
    refine Qg @Ql ?_
    exact Js (ip []) (Jv c.gl 4) (An @noT.eq_1 (An @pk0.eq_1 (An @Pk.enc.eq_1 @Ql)))
   have k8:¬ G8 l:=fun h=>k8.1 h h12
   refine Qg @Ql ?_
   (refine Qa (fun g5=>?_) (fun g5=>?_)<;>try exact g5.elim)
   refine Qg @Ql ?_
   ((first|apply Yq|apply Ya|apply Xs|apply Xm)<;>(first|exact (nw2 _ s 4)|(have zf1:=@Ql;refine XG ?_;clear zf1;first|exact rfl|exact True.intro|((try (repeat' with_reducible refine And.intro ?_ ?_));(try any_goals (first|refine zm ?_|exact CL|fail))))))
   have hP:rdK l=(⟨1,w4 l 12,w2 s 4,w4 l 16,0,b1 l 8,w2 l 4,8,w2 s 6,0,0,s.drop 8⟩:Pk):=by unfold rdK rdH;simp only[hs,h9,reduceCtorEq,Int.reduceEq,if_true,if_false,↓reduceIte,f8]
   have hG:=Qbh c.gl (⟨1,w4 l 12,w2 s 4,w4 l 16,0,b1 l 8,w2 l 4,8,w2 s 6,0,0,s.drop 8⟩:Pk)
   have hE:=Qtf K6 k7 k8 k9 k10
   rw[hP]at hE
   unfold Pk.enc at hG
   dsimp only at hG
   rw[Qgg _ hE hP]
   generalize Yw (⟨1,w4 l 12,w2 s 4,w4 l 16,0,b1 l 8,w2 l 4,8,w2 s 6,0,0,s.drop 8⟩:Pk)=E at *
   clear hP hE
   unfold Pk.enc pk0
   refine Qg @Ql ?_
   refine Xa hG @Ql ?_
   (refine Qa (fun g9=>?_) (fun g9=>?_)<;>try exact g9.elim)
   ·rw[if_neg g9]
    refine Qg @Ql ?_
    exact Js (ip []) (Jv c.gl E) (An @noT.eq_1 (An @pk0.eq_1 (An @Pk.enc.eq_1 @Ql)))
   ·rw[if_pos g9]
    subst g9
    exact Qq @Ql
  ·have f8b:(b1 s 0 != 8)=true:=by simp[f8]
   have f8c:(b1 s 0 == 8)=false:=by simp[f8]
   by_cases f0':b1 s 0=0
   ·have k8:G8 l ↔ b1 s 1≠0:=by unfold G8;rw[hs,h9];simp[f0']
    rw[f0']
    refine Qg (An @Ql @f0') ?_
    (refine Qa (fun h12=>?_) (fun h12=>?_)<;>try exact h12.elim)
    ·rw[Xz (rd8 K6 k7 (k8.2 h12)) Zde]
     refine Qg @Ql ?_
     exact Js (ip []) (Jv c.gl 4) (An @noT.eq_1 (An @pk0.eq_1 (An @Pk.enc.eq_1 @Ql)))
    have k8:¬ G8 l:=fun h=>k8.1 h h12
    refine Qg @Ql ?_
    (refine Qa (fun g5=>?_) (fun g5=>?_)<;>try exact g5.elim)
    refine Qg @Ql ?_
    ((first|apply Yq|apply Ya|apply Xs|apply Xm)<;>(first|exact (nw2 _ s 4)|(have zf1:=@Ql;refine XG ?_;clear zf1;first|exact rfl|exact True.intro|((try (repeat' with_reducible refine And.intro ?_ ?_));(try any_goals (first|refine zm ?_|exact CL|fail))))))
    have hP:rdK l=(⟨1,w4 l 12,0,w4 l 16,w2 s 4,b1 l 8,w2 l 4,0,w2 s 6,0,0,s.drop 8⟩:Pk):=by unfold rdK rdH;simp only[hs,h9,reduceCtorEq,Int.reduceEq,if_true,if_false,↓reduceIte,f0']
    have hG:=Qbh c.gl (⟨1,w4 l 12,0,w4 l 16,w2 s 4,b1 l 8,w2 l 4,0,w2 s 6,0,0,s.drop 8⟩:Pk)
    have hE:=Qtf K6 k7 k8 k9 k10
    rw[hP]at hE
    unfold Pk.enc at hG
    dsimp only at hG
    rw[Qgg _ hE hP]
    generalize Yw (⟨1,w4 l 12,0,w4 l 16,w2 s 4,b1 l 8,w2 l 4,0,w2 s 6,0,0,s.drop 8⟩:Pk)=E at *
    clear hP hE
    unfold Pk.enc pk0
    refine Qg @Ql ?_
    refine Xa hG @Ql ?_
    (refine Qa (fun g9=>?_) (fun g9=>?_)<;>try exact g9.elim)
    ·rw[if_neg g9]
     refine Qg @Ql ?_
     exact Js (ip []) (Jv c.gl E) (An @noT.eq_1 (An @pk0.eq_1 (An @Pk.enc.eq_1 @Ql)))
    ·rw[if_pos g9]
     subst g9
     exact Qq @Ql
   ·have f0b:(b1 s 0 != 0)=true:=by simp[f0']
    refine Qg (An @Ql (An @f8b @f0b)) ?_
    (refine Qa (fun g5=>?_) (fun g5=>?_)<;>try exact g5.elim)
    rw[Xz (rd8 K6 k7 (show G8 l by unfold G8;rw[hs];exact ⟨h9,.inl ⟨f8,f0'⟩⟩)) Zde]
    refine Qg @Ql ?_
    exact Js (ip []) (Jv c.gl 4) (An @noT.eq_1 (An @pk0.eq_1 (An @Pk.enc.eq_1 @Ql)))
 ·have hz:Ur (b1 l 9)=.tup [.int .i64 20,.int .i64 16]:=by rw[h9];rfl
  rw[hz,h9]at hsz
  rw[h9]
  clear hz
  refine Qg @hs ?_
  refine Yt hsz ?_
  (refine Qa (fun g1=>?_) (fun g1=>?_)<;>try exact g1.elim)
  refine Qd ?_
  (refine Qa (fun h10=>?_) (fun h10=>?_)<;>try exact h10.elim)
  ·rw[Xz (rd6 K k5 (by unfold G6;rw[hs,h9];simp;omega)) Zde]
   refine Qg @Ql ?_
   exact Js (ip []) (Jv c.gl 1) (An @noT.eq_1 (An @pk0.eq_1 (An @Pk.enc.eq_1 @Ql)))
  have K6:H6 l:=⟨K,k5,by unfold G6;rw[hs,h9];simp;omega⟩
  clear K k5
  have hpre:be (w4 l 12) 4++be (w4 l 16) 4++be 6 2++be (s.length:Int) 2=Zb 6 (w4 l 12) (w4 l 16) s.length:=rfl
  have hpl:(Zb 6 (w4 l 12) (w4 l 16) s.length).length=12:=by rw[← hpre];simp[Qh]
  have hO:=Qe8 c.gl (Zb 6 (w4 l 12) (w4 l 16) s.length++s) (by rw[List.length_append];omega)
  have hps:=Qgb c.gl (w4 l 12) (w4 l 16) 6 (s.length:Int)
  rw[hpre]at hps
  have hG7:G7 l ↔ ofN (Zb 6 (w4 l 12) (w4 l 16) s.length++s)≠65535:=by unfold G7;rw[hs,h9];simp
  clear hpre
  generalize ofN (Zb 6 (w4 l 12) (w4 l 16) s.length++s)=O at *
  generalize Zb 6 (w4 l 12) (w4 l 16) s.length=pre at *
  refine Qd ?_
  (refine Qa (fun g2=>?_) (fun g2=>?_)<;>try exact g2.elim)
  refine Qd ?_
  refine Xa hps @hpl ?_
  refine Yt hO ?_
  by_cases h11:O=65535
  rotate_left
  ·have d2:((O:Int) != 65535)=true:=by simp;omega
   refine Qg @d2 ?_
   ((first|apply Yd|apply Xu)<;>(have zf1:=@d2;refine XG ?_;clear zf1;first|exact rfl|exact True.intro|((try (repeat' with_reducible refine And.intro ?_ ?_));(try any_goals (first|refine zm ?_|exact CL|fail)))))
   (refine Qa (fun g3=>?_) (fun g3=>?_)<;>try exact g3.elim)
   rw[Xz (rd7 K6 (hG7.2 h11)) Zde]
   refine Qg @Ql ?_
   exact Js (ip []) (Jv c.gl 3) (An @noT.eq_1 (An @pk0.eq_1 (An @Pk.enc.eq_1 @Ql)))
  have d2:((O:Int) != 65535)=false:=by simp;omega
  refine Qg @d2 ?_
  ((first|apply Yd|apply Xu)<;>(have zf1:=@d2;refine XG ?_;clear zf1;first|exact rfl|exact True.intro|((try (repeat' with_reducible refine And.intro ?_ ?_));(try any_goals (first|refine zm ?_|exact CL|fail)))))
  (refine Qa (fun g3=>?_) (fun g3=>?_)<;>try exact g3.elim)
  have k7:¬ G7 l:=fun h=>hG7.1 h h11
  have k8:¬ G8 l:=fun h=>by have:=h.1;omega
  have k9:¬ G9 l:=fun h=>by have:=h.1;omega
  have hG10:G10 l ↔ b1 s 12≠80∨63 < b1 s 13∨w2 s 18≠0:=by unfold G10;rw[hs,h9];simp
  refine Qg @Ql ?_
  (refine Qa (fun g4=>?_) (fun g4=>?_)<;>try exact g4.elim)
  refine Qg @Ql ?_
  (refine Qa (fun g5=>?_) (fun g5=>?_)<;>try exact g5.elim)
  refine Qg @Ql ?_
  (refine Qa (fun g6=>?_) (fun g6=>?_)<;>try exact g6.elim)
  refine Qg @Ql ?_
  ((first|apply Yq|apply Ya|apply Xs|apply Xm)<;>(first|exact (nw2 _ s 0)|(have zf1:=@Ql;have zf2:=@List.drop_zero.{0};refine XG ?_;clear zf1 zf2;first|exact rfl|exact True.intro|((try (repeat' with_reducible refine And.intro ?_ ?_));(try any_goals (first|refine zm ?_|exact CL|fail))))))
  ((first|apply Yq|apply Ya|apply Xs|apply Xm)<;>(first|exact (nw2 _ s 2)|(have zf1:=@Ql;refine XG ?_;clear zf1;first|exact rfl|exact True.intro|((try (repeat' with_reducible refine And.intro ?_ ?_));(try any_goals (first|refine zm ?_|exact CL|fail))))))
  ((first|apply Yq|apply Ya|apply Xs|apply Xm)<;>(first|exact (nw4 _ s 4)|(have zf1:=@Ql;refine XG ?_;clear zf1;first|exact rfl|exact True.intro|((try (repeat' with_reducible refine And.intro ?_ ?_));(try any_goals (first|refine zm ?_|exact CL|fail))))))
  ((first|apply Yq|apply Ya|apply Xs|apply Xm)<;>(first|exact (nw4 _ s 8)|(have zf1:=@Ql;refine XG ?_;clear zf1;first|exact rfl|exact True.intro|((try (repeat' with_reducible refine And.intro ?_ ?_));(try any_goals (first|refine zm ?_|exact CL|fail))))))
  ((first|apply Yq|apply Ya|apply Xs|apply Xm)<;>(first|exact (nw2 _ s 14)|(have zf1:=@Ql;refine XG ?_;clear zf1;first|exact rfl|exact True.intro|((try (repeat' with_reducible refine And.intro ?_ ?_));(try any_goals (first|refine zm ?_|exact CL|fail))))))
  by_cases h13:b1 s 12=80
  rotate_left
  ·have d3:(b1 s 12 != 80)=true:=by simp[h13]
   refine Qg (An @Ql @d3) ?_
   ((first|apply Yd|apply Xu)<;>(have zf1:=@d3;refine XG ?_;clear zf1;first|exact rfl|exact True.intro|((try (repeat' with_reducible refine And.intro ?_ ?_));(try any_goals (first|refine zm ?_|exact CL|fail)))))
   (refine Qa (fun g7=>?_) (fun g7=>?_)<;>try exact g7.elim)
   rw[Xz (Xbj K6 k7 k8 k9 (hG10.2 (.inl h13))) Zde]
   refine Qg @Ql ?_
   exact Js (ip []) (Jv c.gl 4) (An @noT.eq_1 (An @pk0.eq_1 (An @Pk.enc.eq_1 @Ql)))
  by_cases h14:63 < b1 s 13
  ·have d3:decide (63 < b1 s 13)=true:=by simp[h14]
   refine Qg (An @Ql (An @h13 @d3)) ?_
   ((first|apply Yd|apply Xu)<;>(have zf1:=@d3;refine XG ?_;clear zf1;first|exact rfl|exact True.intro|((try (repeat' with_reducible refine And.intro ?_ ?_));(try any_goals (first|refine zm ?_|exact CL|fail)))))
   (refine Qa (fun g7=>?_) (fun g7=>?_)<;>try exact g7.elim)
   rw[Xz (Xbj K6 k7 k8 k9 (hG10.2 (.inr (.inl h14)))) Zde]
   refine Qg @Ql ?_
   exact Js (ip []) (Jv c.gl 4) (An @noT.eq_1 (An @pk0.eq_1 (An @Pk.enc.eq_1 @Ql)))
  have d3:decide (63 < b1 s 13)=false:=by simp;omega
  refine Qg (An @Ql (An @h13 @d3)) ?_
  ((first|apply Yq|apply Ya|apply Xs|apply Xm)<;>(first|exact (nw2 _ s 18)|(have zf1:=@Ql;have zf2:=@h13;have zf3:=@d3;refine XG ?_;clear zf1 zf2 zf3;first|exact rfl|exact True.intro|((try (repeat' with_reducible refine And.intro ?_ ?_));(try any_goals (first|refine zm ?_|exact CL|fail))))))
  (refine Qa (fun h15=>?_) (fun h15=>?_)<;>try exact h15.elim)
  ·rw[Xz (Xbj K6 k7 k8 k9 (hG10.2 (.inr (.inr h15)))) Zde]
   refine Qg @Ql ?_
   exact Js (ip []) (Jv c.gl 4) (An @noT.eq_1 (An @pk0.eq_1 (An @Pk.enc.eq_1 @Ql)))
  have k10:¬ G10 l:=fun h=>by have:=hG10.1 h;omega
  have hP:rdK l=(⟨6,w4 l 12,w2 s 0,w4 l 16,w2 s 2,b1 l 8,w2 l 4,b1 s 13,w4 s 4,w4 s 8,w2 s 14,s.drop 20⟩:Pk):=by unfold rdK rdH;simp only[hs,h9,reduceCtorEq,Int.reduceEq,if_true,if_false,↓reduceIte]
  have hG:=Qbh c.gl (⟨6,w4 l 12,w2 s 0,w4 l 16,w2 s 2,b1 l 8,w2 l 4,b1 s 13,w4 s 4,w4 s 8,w2 s 14,s.drop 20⟩:Pk)
  have hE:=Qtf K6 k7 k8 k9 k10
  rw[hP]at hE
  unfold Pk.enc at hG
  dsimp only at hG
  rw[Qgg _ hE hP]
  generalize Yw (⟨6,w4 l 12,w2 s 0,w4 l 16,w2 s 2,b1 l 8,w2 l 4,b1 s 13,w4 s 4,w4 s 8,w2 s 14,s.drop 20⟩:Pk)=E at *
  clear hP hE
  unfold Pk.enc pk0
  refine Qg @Ql ?_
  refine Xa hG @Ql ?_
  (refine Qa (fun g9=>?_) (fun g9=>?_)<;>try exact g9.elim)
  ·rw[if_neg g9]
   refine Qg @Ql ?_
   exact Js (ip []) (Jv c.gl E) (An @noT.eq_1 (An @pk0.eq_1 (An @Pk.enc.eq_1 @Ql)))
  ·rw[if_pos g9]
   subst g9
   exact Qq @Ql
 ·have hz:Ur (b1 l 9)=.tup [.int .i64 8,.int .i64 6]:=by rw[h9];rfl
  rw[hz,h9]at hsz
  rw[h9]
  clear hz
  refine Qg @hs ?_
  refine Yt hsz ?_
  (refine Qa (fun g1=>?_) (fun g1=>?_)<;>try exact g1.elim)
  refine Qd ?_
  (refine Qa (fun h10=>?_) (fun h10=>?_)<;>try exact h10.elim)
  ·rw[Xz (rd6 K k5 (by unfold G6;rw[hs,h9];simp;omega)) Zde]
   refine Qg @Ql ?_
   exact Js (ip []) (Jv c.gl 1) (An @noT.eq_1 (An @pk0.eq_1 (An @Pk.enc.eq_1 @Ql)))
  have K6:H6 l:=⟨K,k5,by unfold G6;rw[hs,h9];simp;omega⟩
  clear K k5
  have hpre:be (w4 l 12) 4++be (w4 l 16) 4++be 17 2++be (s.length:Int) 2=Zb 17 (w4 l 12) (w4 l 16) s.length:=rfl
  have hpl:(Zb 17 (w4 l 12) (w4 l 16) s.length).length=12:=by rw[← hpre];simp[Qh]
  have hO:=Qe8 c.gl (Zb 17 (w4 l 12) (w4 l 16) s.length++s) (by rw[List.length_append];omega)
  have hps:=Qgb c.gl (w4 l 12) (w4 l 16) 17 (s.length:Int)
  rw[hpre]at hps
  have hG7:G7 l ↔ ofN (Zb 17 (w4 l 12) (w4 l 16) s.length++s)≠65535∨w2 s 6=0:=by unfold G7;rw[hs,h9];simp
  clear hpre
  generalize ofN (Zb 17 (w4 l 12) (w4 l 16) s.length++s)=O at *
  generalize Zb 17 (w4 l 12) (w4 l 16) s.length=pre at *
  refine Qd ?_
  (refine Qa (fun g2=>?_) (fun g2=>?_)<;>try exact g2.elim)
  refine Qd ?_
  refine Xa hps @hpl ?_
  refine Yt hO ?_
  by_cases h11:O=65535
  rotate_left
  ·have d2:((O:Int) != 65535)=true:=by simp;omega
   refine Qg @d2 ?_
   ((first|apply Yd|apply Xu)<;>(have zf1:=@d2;refine XG ?_;clear zf1;first|exact rfl|exact True.intro|((try (repeat' with_reducible refine And.intro ?_ ?_));(try any_goals (first|refine zm ?_|exact CL|fail)))))
   (refine Qa (fun g3=>?_) (fun g3=>?_)<;>try exact g3.elim)
   rw[Xz (rd7 K6 (hG7.2 (.inl h11))) Zde]
   refine Qg @Ql ?_
   exact Js (ip []) (Jv c.gl 3) (An @noT.eq_1 (An @pk0.eq_1 (An @Pk.enc.eq_1 @Ql)))
  have d2:((O:Int) != 65535)=false:=by simp;omega
  refine Qg @d2 ?_
  ((first|apply Yq|apply Ya|apply Xs|apply Xm)<;>(first|exact (nw2 _ s 6)|(have zf1:=@d2;refine XG ?_;clear zf1;first|exact rfl|exact True.intro|((try (repeat' with_reducible refine And.intro ?_ ?_));(try any_goals (first|refine zm ?_|exact CL|fail))))))
  (refine Qa (fun h12=>?_) (fun h12=>?_)<;>try exact h12.elim)
  ·rw[Xz (rd7 K6 (hG7.2 (.inr h12))) Zde]
   refine Qg @Ql ?_
   exact Js (ip []) (Jv c.gl 3) (An @noT.eq_1 (An @pk0.eq_1 (An @Pk.enc.eq_1 @Ql)))
  have k7:¬ G7 l:=fun h=>by have:=hG7.1 h;omega
  have k8:¬ G8 l:=fun h=>by have:=h.1;omega
  have k10:¬ G10 l:=fun h=>by have:=h.1;omega
  have hG9:G9 l ↔ w2 s 4≠s.length:=by unfold G9;rw[hs,h9];simp
  refine Qg @Ql ?_
  (refine Qa (fun g3=>?_) (fun g3=>?_)<;>try exact g3.elim)
  refine Qg @Ql ?_
  (refine Qa (fun g4=>?_) (fun g4=>?_)<;>try exact g4.elim)
  refine Qg @Ql ?_
  ((first|apply Yq|apply Ya|apply Xs|apply Xm)<;>(first|exact (nw2 _ s 0)|(have zf1:=@Ql;have zf2:=@List.drop_zero.{0};refine XG ?_;clear zf1 zf2;first|exact rfl|exact True.intro|((try (repeat' with_reducible refine And.intro ?_ ?_));(try any_goals (first|refine zm ?_|exact CL|fail))))))
  ((first|apply Yq|apply Ya|apply Xs|apply Xm)<;>(first|exact (nw2 _ s 2)|(have zf1:=@Ql;refine XG ?_;clear zf1;first|exact rfl|exact True.intro|((try (repeat' with_reducible refine And.intro ?_ ?_));(try any_goals (first|refine zm ?_|exact CL|fail))))))
  ((first|apply Yq|apply Ya|apply Xs|apply Xm)<;>(first|exact (nw2 _ s 4)|(have zf1:=@Ql;refine XG ?_;clear zf1;first|exact rfl|exact True.intro|((try (repeat' with_reducible refine And.intro ?_ ?_));(try any_goals (first|refine zm ?_|exact CL|fail))))))
  (refine Qa (fun h13=>?_) (fun h13=>?_)<;>try exact h13.elim)
  ·rw[Xz (rd9 K6 k7 k8 (hG9.2 h13)) Zde]
   refine Qg @Ql ?_
   exact Js (ip []) (Jv c.gl 1) (An @noT.eq_1 (An @pk0.eq_1 (An @Pk.enc.eq_1 @Ql)))
  have k9:¬ G9 l:=fun h=>hG9.1 h h13
  have hP:rdK l=(⟨17,w4 l 12,w2 s 0,w4 l 16,w2 s 2,b1 l 8,w2 l 4,0,0,0,0,s.drop 8⟩:Pk):=by unfold rdK rdH;simp only[hs,h9,reduceCtorEq,Int.reduceEq,if_true,if_false,↓reduceIte]
  have hG:=Qbh c.gl (⟨17,w4 l 12,w2 s 0,w4 l 16,w2 s 2,b1 l 8,w2 l 4,0,0,0,0,s.drop 8⟩:Pk)
  have hE:=Qtf K6 k7 k8 k9 k10
  rw[hP]at hE
  unfold Pk.enc at hG
  dsimp only at hG
  rw[Qgg _ hE hP]
  generalize Yw (⟨17,w4 l 12,w2 s 0,w4 l 16,w2 s 2,b1 l 8,w2 l 4,0,0,0,0,s.drop 8⟩:Pk)=E at *
  clear hP hE
  unfold Pk.enc pk0
  refine Qg @Ql ?_
  refine Xa hG @Ql ?_
  (refine Qa (fun g9=>?_) (fun g9=>?_)<;>try exact g9.elim)
  ·rw[if_neg g9]
   refine Qg @Ql ?_
   exact Js (ip []) (Jv c.gl E) (An @noT.eq_1 (An @pk0.eq_1 (An @Pk.enc.eq_1 @Ql)))
  ·rw[if_pos g9]
   subst g9
   exact Qq @Ql
theorem Yae (l:List UInt8) (k:Nat) (h:k + 2≤l.length):w2 l k=256 * b1 l k + b1 l (k + 1):=by
 have e:(l.drop k).take 2=[l.getD k 0,l.getD (k + 1) 0]:=by
  have a0:l.getD k 0=l[k]:=by simp[List.getD,show k < l.length by omega]
  have a1:l.getD (k + 1) 0=l[k + 1]:=by simp[List.getD,show k + 1 < l.length by omega]
  have a2:l.drop k=l[k]::l[k + 1]::l.drop (k + 2):=by rw[List.drop_eq_getElem_cons (show k < l.length by omega),List.drop_eq_getElem_cons (show k + 1 < l.length by omega)]
  rw[a0,a1,a2];rfl
 unfold w2 b1
 rw[e,Xa6 _ Zsi]
 simp only[nbN]
 omega
theorem Qlc {f:List UInt8} (h:rdE f=0):28≤f.length∧f.length≤65535:=by
 have h1:¬ G1 f:=fun h1=>by rw[rd1 h1]at h;cases h
 have h2:¬ G2 f:=fun h2=>by rw[rd2 h1 h2]at h;cases h
 have h3:¬ G3 f:=fun h3=>by rw[rd3 h1 h2 h3]at h;cases h
 have h4:¬ G4 f:=fun h4=>by rw[rd4 h1 h2 h3 h4]at h;cases h
 have k:H4 f:=⟨h1,h2,h3,h4⟩
 have h5:¬ G5 f:=fun h5=>by rw[rd5 k h5]at h;cases h
 have h6:¬ G6 f:=fun h6=>by rw[rd6 k h5 h6]at h;cases h
 unfold G1 at h1
 unfold G6 at h6
 rw[List.length_drop]at h6
 have:=Yaw f 2 Zom
 split at h6<;>omega
theorem Xvv (f:List UInt8):(rdK f).frm=w4 f 12:=by
 unfold rdK
 dsimp only
 split
 ·rfl
 ·split<;>rfl
def Qau (l:List UInt8) (id:Int):AV:=if rdE l≠0 then .tup [.str [],.int .i64 (rdE l)] else if ¬ (0≤id∧id≤65535) then .tup [.str [],.int .i64 2] else .tup [.str (Qt3 l (w4 l 12) id),.int .i64 0]
theorem Xgd (l:List UInt8) (id:Int):Qe 0 (Qau l id):=by
 unfold Qau;split
 ·simp[Qe,nmAll]
 ·split<;>simp[Qe,nmAll]
set_option maxHeartbeats 2000000 in
theorem Xkx (gl:Nat→AV) (l:List UInt8) (id:Int) (hl:l.length≤140737488351232):PS Tryz.prog gl 124 [.str l,.int .i64 id] (Qau l id):=by
 refine Xbb.ps (of_decide_eq_true rfl) (Xgd l id) fun c hN hg=>?_
 conv in tcO _ _=>cbv
 have hP:=Qdl c.gl l hl
 by_cases he:rdE l=0
 rotate_left
 ·rw[Xz rfl he]at hP
  have hr:Qau l id=.tup [.str [],.int .i64 (rdE l)]:=if_pos he
  rw[hr]
  clear hr
  generalize rdE l=E at *
  unfold pk0 Pk.enc at hP
  dsimp only at hP
  refine Qd ?_
  refine Yt hP ?_
  (refine Qa (fun g1=>?_) (fun g1=>?_)<;>try exact g1.elim)
  ·exact Qs
  ·exact (he g1).elim
 obtain ⟨l28,l65⟩:=Qlc he
 rw[Qnu he]at hP
 have hf:=Xvv l
 have hw:=Qpa c.gl [id] Zsi
 have h4:=Xek l 12 Zom
 unfold Pk.enc at hP
 rw[hf]at hP
 generalize rdK l=q at *
 clear hf
 by_cases hid:0≤id∧id≤65535
 rotate_left
 ·have hr:Qau l id=.tup [.str [],.int .i64 2]:=by unfold Qau;rw[if_neg Zom,if_pos hid]
  have hb:[id].all (inW 65535)=false:=by simp[inW];omega
  rw[hr]
  rw[hb]at hw
  refine Qd ?_
  refine Yt hP ?_
  (refine Qa (fun g1=>?_) (fun g1=>?_)<;>try exact g1.elim)
  refine Qd ?_
  refine Jh ?_
  ((first|apply Wg|apply Ke)<;>(first|exact hw|(with_reducible (exact Jm.bool _))|(refine XG ?_;first|exact rfl|exact True.intro|((try (repeat' with_reducible refine And.intro ?_ ?_));(try any_goals (first|refine zm ?_|exact CL|fail))))))
  (refine Qa (fun g2=>?_) (fun g2=>?_)<;>try exact g2.elim)
  exact Qs
 have hr:Qau l id=.tup [.str (Qt3 l (w4 l 12) id),.int .i64 0]:=by unfold Qau;rw[if_neg Zom,if_neg Zom]
 have hb:[id].all (inW 65535)=true:=by simp[inW];omega
 rw[hr]
 rw[hb]at hw
 clear hr hb
 obtain ⟨p8,hp8⟩:∃ p8:List UInt8,p8=[3,13,0,0,0,0,0,0]:=⟨_,rfl⟩
 have hl8:p8.length=8:=by rw[hp8];rfl
 have lit:[.int .u8 3,.int .u8 13,.int .u8 0,.int .u8 0,.int .u8 0,.int .u8 0,.int .u8 0,.int .u8 0]=Xk p8:=by rw[hp8];rfl
 have hset:∀ v,((p8++l.take 28).set 2 (Qf v 1)).set 3 (Qf v 0)=[3,13]++be v 2++([0,0,0,0]++l.take 28):=fun v=>by rw[hp8];rfl
 have hck:Zl ([3,13]++[0,0]++([0,0,0,0]++l.take 28))=Zl (p8++l.take 28):=by rw[hp8];rfl
 have hfin:Qt3 l (w4 l 12) id=Qaj 1 167772414 (w4 l 12) 64 id 36++((p8++l.take 28).set 2 (Qf (Zl (p8++l.take 28)) 1)).set 3 (Qf (Zl (p8++l.take 28)) 0):=by
  unfold Qt3 Xz3;rw[hset,hck]
 rw[hfin]
 clear hfin hck hset hp8
 have hlr:(p8++l.take 28).length=36:=by rw[List.length_append,List.length_take];omega
 have hCk:=Qfp c.gl (p8++l.take 28) Zom
 have hKl:=Qbc (p8++l.take 28)
 generalize Zl (p8++l.take 28)=K at *
 have t8:p8.take 8=p8:=List.take_of_length_le Zom
 refine Qd ?_
 refine Yt hP ?_
 (refine Qa (fun g1=>?_) (fun g1=>?_)<;>try exact g1.elim)
 refine Qd ?_
 refine Jh ?_
 ((first|apply Wg|apply Ke)<;>(first|exact hw|(with_reducible (exact Jm.bool _))|(refine XG ?_;first|exact rfl|exact True.intro|((try (repeat' with_reducible refine And.intro ?_ ?_));(try any_goals (first|refine zm ?_|exact CL|fail))))))
 (refine Qa (fun g2=>?_) (fun g2=>?_)<;>try exact g2.elim)
 refine Qd ?_
 refine Jh ?_
 simp only[lit]
 refine Zr (An @hl8 @t8) ?_
 generalize hR:p8++l.take 28=R at *
 have tR:R.take 36=R:=List.take_of_length_le Zom
 refine Xa hCk (An @hlr @tR) ?_
 have hset:((R.set 2 (Qf K 1)).set 3 (Qf K 0)).length=36:=by simp[hlr]
 refine Qg (An @hlr @Qei) ?_
 generalize hS:(R.set 2 (Qf K 1)).set 3 (Qf K 0)=S at *
 have hmin:((8 + min 28 l.length:Nat):Int)=36:=by omega
 ((first|refine Qy (ins:=[]) (Jd c.gl 1 167772414 (w4 l 12) 64 id 36 (by omega)) ?_ ?_|refine Qv (ins:=[]) (Jd c.gl 1 167772414 (w4 l 12) 64 id 36 (by omega)) ?_ ?_|refine Qu (ins:=[]) (Jd c.gl 1 167772414 (w4 l 12) 64 id 36 (by omega)) ?_ ?_|refine Qr (ins:=[]) (Jd c.gl 1 167772414 (w4 l 12) 64 id 36 (by omega)) ?_ ?_)<;>(have zf1:=@hlr;have zf2:=@hmin;refine XG ?_;clear zf1 zf2;(try first|exact rfl|exact True.intro);((try (repeat' with_reducible refine And.intro ?_ ?_));(try any_goals (first|refine zm ?_|exact CL|fail)))))
 refine Zr (An @hset @Kf) ?_
 rw[List.take_of_length_le (by simp[Kf,hset])]
theorem To.nto {p:List Nat} {t t':List (Nat × AV)} {h:List (Nat × Bk)} {S:NS} {T:WT} {n:Nat} (ρ:Nat→Nat) (hT:T.wf) (hp:∀ b ∈ p,ρ b=b∧b < 70) (hinj:∀ b b',b < 70→b' < 70→ρ b=ρ b'→b=b') (hl:∀ b,b < 70→Qb h n (ρ b)=Xf ρ (Qb (Qm S T) 70 b)) (ht:Qw ρ 70 t t'):To p ⟨t,h,n⟩ ⟨t',Qm S T,70⟩:=by
 refine To.lk ρ (fun b hb=>hp b hb) (fun b hlv=>?_) (fun b hb hnl=>?_) (fun b hb=>Yb hT 70 b hb |>.trans (if_neg (by have hb:70≤b:=hb;omega))) (fun b b' hb hb' _ _ e=>hinj b b' hb hb' e) (fun b hb hlv=>?_) ht
 ·by_cases h:b < 70
  ·exact h
  ·have hlv:(Qb (Qm S T) 70 b).live:=hlv
   rw[Yb hT 70 b Zom,if_neg h]at hlv
   exact hlv.elim
 ·obtain ⟨_,q,hq,_,e⟩:=(Qi (S:=S) hT).live hb 70
  exact (hnl (by show (Qb (Qm S T) 70 b).live;rw[e];exact Xe ((Qi hT).mem q hq).2)).elim
 ·obtain ⟨_,q,hq,_,e⟩:=(Qi (S:=S) hT).live hb 70
  refine ⟨?_,hl b hb⟩
  show nmB 70 (Qb (Qm S T) 70 b)
  rw[e];exact ((Qi hT).mem q hq).2
theorem Xm8 {S S':NS} {T:WT} {ex:List (Nat × Bk)} {n:Nat} (hfl:S'.fl=S.fl) (hex:∀ q ∈ ex,70≤q.1∨q=(67,Bk.cells S'.cells)) (h67:Qb (ex++Qm S T) n 67=.cells S'.cells) (hT:T.wf):∀ b,b < 70→Qb (ex++Qm S T) n (id b)=Xf id (Qb (Qm S' T) 70 b):=fun b hb=>by
 rw[Wz]
 show Qb (ex++Qm S T) n b=_
 by_cases h:b=67
 ·subst h;rw[h67];rfl
 ·rw[Xn fun q hq e=>(hex q hq).elim (fun h1=>by omega) fun h1=>h (by rw[h1]at e;exact e.symm),((Qi (S:=S) hT).live hb n).1]
  unfold Qm NS.keys
  rw[hfl]
  simp only[Qc]
  (repeat' split)<;>first|rfl|omega
theorem NS.s35 {S:NS} (h:S.tb.wf) (v:Nat):S.cells.set 35 (.int .i64 v)=({ S with ref:=v }:NS).cells:=NS.cells_set h 5 _
set_option maxHeartbeats 2000000 in
theorem Qn1 (gl:Nat→AV) (S:NS) (T:WT) (hS:NJ S) (hT:T.wf) (f:List UInt8) (hf:f.length≤140737488351232) (e:Int):GD Tryz.prog gl 88 [.ptr 67 0,.str f,.int .i64 e] (Qm S T) 70 (List.range 70) (.agg (S.refuse f e).1.enc) (Qm (S.refuse f e).2 T):=by
 refine Xbt.gq (of_decide_eq_true rfl) (Ze hT) (fun b hb=>List.mem_range.1 hb) fun c hgh hg=>?_
 conv in tcO _ _=>cbv
 have hHi:=fun n b hb=>Yb (S:=S) hT n b hb
 have h67:=Jw S T
 have hcl:=NS.cells_len hS.wf
 have c35:=NS.c35 hS.wf
 have hR:=Xkx c.gl f S.ref hf
 have hr4:=hS.ref
 unfold NS.refuse
 refine Qg (An @hHi (An @h67 (An @hcl @c35))) ?_
 (refine Qa (fun h1=>?_) (fun h1=>?_)<;>try exact h1.elim)
 ·rw[if_pos (.inl Zom)]
  unfold rpE Rp.enc
  refine Qg @hHi ?_
  exact ⟨(),To.ndrop (ex:=[(70,_),(70,_)]) hT Zsi (fun b hb=>List.mem_range.1 hb) (by simp[Qw,Qe,nmAll,look,ren,rens])⟩
 by_cases he:rdE f=0
 ·unfold Qau at hR
  rw[if_neg Zom,if_neg Zom]at hR
  rw[if_neg Zom]
  have hs35:=NS.s35 hS.wf (S.ref - 1)
  have hsub:(S.ref:Int) - 1=((S.ref - 1:Nat):Int):=by omega
  unfold Rp.enc
  refine Qg (An @hHi (An @h67 (An @hcl @c35))) ?_
  refine Yt hR ?_
  refine Qd ?_
  (refine Qa (fun h2=>?_) (fun h2=>?_)<;>try exact h2.elim)
  refine Qg (An @hHi (An @h67 (An @hcl (An @c35 (An @hsub @hs35))))) ?_
  exact ⟨(),To.nto id hT (fun b hb=>⟨rfl,List.mem_range.1 hb⟩) (fun b b' _ _ e=>e) (Xm8 (S':={ S with ref:=S.ref - 1 }) (ex:=[(70,_),(67,_),(70,_)]) rfl Zsi rfl hT) (by simp[Qw,Qe,nmAll,look,ren,rens])⟩
 ·have hR2:Qau f S.ref=.tup [.str [],.int .i64 (rdE f)]:=if_pos he
  rw[hR2]at hR
  rw[if_pos (.inr he)]
  unfold rpE Rp.enc
  refine Qg (An @hHi (An @h67 (An @hcl @c35))) ?_
  refine Yt hR ?_
  refine Qd ?_
  (refine Qa (fun h2=>?_) (fun h2=>?_)<;>try exact h2.elim)
  ·refine Qg @hHi ?_
   exact ⟨(),To.ndrop (ex:=[(70,_),(70,_)]) hT Zsi (fun b hb=>List.mem_range.1 hb) (by simp[Qw,Qe,nmAll,look,ren,rens])⟩
  ·exact absurd h2 he
set_option maxHeartbeats 2000000 in
theorem Xbd (gl:Nat→AV) (seq:Int) (l:List Ev) (hll:l.length≤4611686018427387904) :
  PS Tryz.prog gl 135 [.int .i64 seq,.isl l.length (Zc l)] (Qgj seq l):=by
 refine Qnd.ps (of_decide_eq_true rfl) (Xrw _ _ _) fun c hN hg=>?_
 conv in tcO _ _=>cbv
 have hl:=Qfn l
 refine Qd ?_
 (refine Qa (fun h1=>?_) (fun h1=>?_)<;>try exact h1.elim)
 ·have:l=[]:=List.eq_nil_of_length_eq_zero Zom
  subst this
  refine Qd ?_
  rfl
 obtain ⟨e0,l0,hL⟩:∃ e0 l0,e0::l0=l:=by
  cases l with
  | nil=>simp at h1
  | cons e l=>exact ⟨e,l,rfl⟩
 have hc0:(Zc l).getD 0 .any=.int .i64 e0.t:=by
  have:=Xsk (e0::l0) 0 Zsi 0 Zde
  simp only[List.getElem_cons_zero,Ev.enc,List.getD_cons_zero,Nat.zero_mul,Nat.zero_add]at this
  rw[← hL];exact this
 refine Qd ?_
 (refine Qa (fun h2=>?_) (fun h2=>?_)<;>try exact h2.elim)
 ·refine Qd ?_
  subst hL
  simp only[Qgj]
  rw[if_pos (by simp only[List.length_cons]at h2;omega)]
 have hlen:l.length≤64:=by omega
 have hlen2:¬ 64 < l0.length + 1:=by rw[← hL]at hlen;simp only[List.length_cons]at hlen;omega
 generalize l=L at *
 refine Qd ?_
 refine Xl5 (ps:=[(6,1)]) (by exact Qs) ?_
 (refine XG ?_)
 refine Xl (fun k:Nat=>k≤L.length∧Qjl e0.t (L.take k)=true) (fun k=>⟨[(0,.int .i64 seq),(1,.isl L.length (Zc L)),(6,.sl 1 0 0 (21 * k) (21 * k)),(17,.isl L.length (Zc L)),(18,.int .i64 L.length),(19,.int .i64 k)],[(0,.cells (Xk (Qb6 (L.take k))))],1⟩) (fun k=>L.length - k) Qnd.mixed hN
  ⟨0,⟨by omega,rfl⟩,[],by refine Qd ?_;rfl⟩ fun k ⟨hk,hall⟩=>?_
 refine Qd ?_
 (refine Qa (fun h3=>?_) (fun h3=>?_)<;>try exact h3.elim)
 ·have hkn:k < L.length:=by omega
  have hcut:=Qsx L k hkn
  have htk:=Xll L k hkn
  have hall2:Qjl e0.t (L.take (k + 1))=(Wv L[k].t L[k].s L[k].a L[k].b && L[k].t == e0.t):=by
   unfold Qjl at hall ⊢
   rw[List.take_add_one,List.getElem?_eq_getElem hkn,List.all_append,hall]
   simp
  have hbad:(Wv L[k].t L[k].s L[k].a L[k].b && L[k].t == e0.t)=false→Qjl e0.t L=false:=fun hb=>by
   unfold Qjl
   rw[List.all_eq_false]
   exact ⟨L[k],List.getElem_mem _,by rw[hb];simp⟩
  have hlk:(Qb6 (L.take k)).length=21 * k:=by rw[Qi8];simp;omega
  generalize L[k]=e at *
  obtain ⟨t,sb,a,b,f⟩:=e
  simp only[Ev.enc]at hcut
  refine Qg (An @hl @hcut) ?_
  ((first|apply Yq|apply Ya|apply Xs|apply Xm)<;>(first|exact (Xdk _ _ _ _ _ _)|(have zf1:=@hcut;have zf2:=@hc0;refine XG ?_;clear zf1 zf2;first|exact rfl|exact True.intro|((try (repeat' with_reducible refine And.intro ?_ ?_));(try any_goals (first|refine zm ?_|exact CL|fail))))))
  (refine Qa (fun h4=>?_) (fun h4=>?_)<;>try exact h4.elim)
  ·have hb:=hbad (by
    simp only[Qop]at h4
    cases hg:Wv t sb a b
    ·rfl
    ·rw[if_pos hg]at h4;simpa using h4)
   refine Qd ?_
   subst hL
   simp only[Qgj]
   rw[if_neg hlen2,if_neg (by rw[hb];simp)]
  ·have hgd:Wv t sb a b=true:=by
    simp only[Qop]at h4
    by_cases hg:Wv t sb a b=true
    ·exact hg
    ·rw[if_neg hg]at h4;simp at h4
   have ht:t=e0.t:=by
    simp only[Qop]at h4
    rw[if_pos hgd]at h4;simpa using h4
   have hr:=hgd
   simp[Wv]at hr
   generalize hB:Qb6 (L.take k)=B at *
   have hB2:B.length≤100000000 - 21:=by omega
   refine Qd ?_
   ((first|refine Qy (ins:=[0]) (Qz c.gl B t 8 (by decide) (by omega)) ?_ ?_|refine Qv (ins:=[0]) (Qz c.gl B t 8 (by decide) (by omega)) ?_ ?_|refine Qu (ins:=[0]) (Qz c.gl B t 8 (by decide) (by omega)) ?_ ?_|refine Qr (ins:=[0]) (Qz c.gl B t 8 (by decide) (by omega)) ?_ ?_)<;>(have zf1:=@Qh;have zf2:=@hlk;refine XG ?_;clear zf1 zf2;(try first|exact rfl|exact True.intro);((try (repeat' with_reducible refine And.intro ?_ ?_));(try any_goals (first|refine zm ?_|exact CL|fail)))))
   ((first|refine Qy (ins:=[2]) (Qz c.gl (B++be t 8) (167772161 + sb) 4 (by decide) (by simp[Qh];omega)) ?_ ?_|refine Qv (ins:=[2]) (Qz c.gl (B++be t 8) (167772161 + sb) 4 (by decide) (by simp[Qh];omega)) ?_ ?_|refine Qu (ins:=[2]) (Qz c.gl (B++be t 8) (167772161 + sb) 4 (by decide) (by simp[Qh];omega)) ?_ ?_|refine Qr (ins:=[2]) (Qz c.gl (B++be t 8) (167772161 + sb) 4 (by decide) (by simp[Qh];omega)) ?_ ?_)<;>(have zf1:=@Qh;have zf2:=@hlk;refine XG ?_;clear zf1 zf2;(try first|exact rfl|exact True.intro);((try (repeat' with_reducible refine And.intro ?_ ?_));(try any_goals (first|refine zm ?_|exact CL|fail)))))
   ((first|refine Qy (ins:=[3]) (Qz c.gl (B++be t 8++be (167772161 + sb) 4) (3405803777 + a) 4 (by decide) (by simp[Qh];omega)) ?_ ?_|refine Qv (ins:=[3]) (Qz c.gl (B++be t 8++be (167772161 + sb) 4) (3405803777 + a) 4 (by decide) (by simp[Qh];omega)) ?_ ?_|refine Qu (ins:=[3]) (Qz c.gl (B++be t 8++be (167772161 + sb) 4) (3405803777 + a) 4 (by decide) (by simp[Qh];omega)) ?_ ?_|refine Qr (ins:=[3]) (Qz c.gl (B++be t 8++be (167772161 + sb) 4) (3405803777 + a) 4 (by decide) (by simp[Qh];omega)) ?_ ?_)<;>(have zf1:=@Qh;have zf2:=@hlk;refine XG ?_;clear zf1 zf2;(try first|exact rfl|exact True.intro);((try (repeat' with_reducible refine And.intro ?_ ?_));(try any_goals (first|refine zm ?_|exact CL|fail)))))
   ((first|refine Qy (ins:=[4]) (Qz c.gl (B++be t 8++be (167772161 + sb) 4++be (3405803777 + a) 4) (1024 + b * 8) 2 (by decide) (by simp[Qh];omega)) ?_ ?_|refine Qv (ins:=[4]) (Qz c.gl (B++be t 8++be (167772161 + sb) 4++be (3405803777 + a) 4) (1024 + b * 8) 2 (by decide) (by simp[Qh];omega)) ?_ ?_|refine Qu (ins:=[4]) (Qz c.gl (B++be t 8++be (167772161 + sb) 4++be (3405803777 + a) 4) (1024 + b * 8) 2 (by decide) (by simp[Qh];omega)) ?_ ?_|refine Qr (ins:=[4]) (Qz c.gl (B++be t 8++be (167772161 + sb) 4++be (3405803777 + a) 4) (1024 + b * 8) 2 (by decide) (by simp[Qh];omega)) ?_ ?_)<;>(have zf1:=@Qh;have zf2:=@hlk;refine XG ?_;clear zf1 zf2;(try first|exact rfl|exact True.intro);((try (repeat' with_reducible refine And.intro ?_ ?_));(try any_goals (first|refine zm ?_|exact CL|fail)))))
   ((first|refine Qy (ins:=[5]) (Qz c.gl (B++be t 8++be (167772161 + sb) 4++be (3405803777 + a) 4++be (1024 + b * 8) 2) (1024 + b * 8 + 8 - 1) 2 (by decide) (by simp[Qh];omega)) ?_ ?_|refine Qv (ins:=[5]) (Qz c.gl (B++be t 8++be (167772161 + sb) 4++be (3405803777 + a) 4++be (1024 + b * 8) 2) (1024 + b * 8 + 8 - 1) 2 (by decide) (by simp[Qh];omega)) ?_ ?_|refine Qu (ins:=[5]) (Qz c.gl (B++be t 8++be (167772161 + sb) 4++be (3405803777 + a) 4++be (1024 + b * 8) 2) (1024 + b * 8 + 8 - 1) 2 (by decide) (by simp[Qh];omega)) ?_ ?_|refine Qr (ins:=[5]) (Qz c.gl (B++be t 8++be (167772161 + sb) 4++be (3405803777 + a) 4++be (1024 + b * 8) 2) (1024 + b * 8 + 8 - 1) 2 (by decide) (by simp[Qh];omega)) ?_ ?_)<;>(have zf1:=@Qh;have zf2:=@hlk;refine XG ?_;clear zf1 zf2;(try first|exact rfl|exact True.intro);((try (repeat' with_reducible refine And.intro ?_ ?_));(try any_goals (first|refine zm ?_|exact CL|fail)))))
   have e1:1024 + 8 * b=1024 + b * 8:=by omega
   have e2:1031 + 8 * b=1024 + b * 8 + 8 - 1:=by omega
   cases f with
   | false =>
    (refine Qa (fun h5=>?_) (fun h5=>?_)<;>try exact h5.elim)
    refine Qd ?_
    ((first|refine Qy (ins:=[6]) (Qz c.gl (B++be t 8++be (167772161 + sb) 4++be (3405803777 + a) 4++be (1024 + b * 8) 2++be (1024 + b * 8 + 8 - 1) 2) 1 1 (by decide) (by simp[Qh];omega)) ?_ ?_|refine Qv (ins:=[6]) (Qz c.gl (B++be t 8++be (167772161 + sb) 4++be (3405803777 + a) 4++be (1024 + b * 8) 2++be (1024 + b * 8 + 8 - 1) 2) 1 1 (by decide) (by simp[Qh];omega)) ?_ ?_|refine Qu (ins:=[6]) (Qz c.gl (B++be t 8++be (167772161 + sb) 4++be (3405803777 + a) 4++be (1024 + b * 8) 2++be (1024 + b * 8 + 8 - 1) 2) 1 1 (by decide) (by simp[Qh];omega)) ?_ ?_|refine Qr (ins:=[6]) (Qz c.gl (B++be t 8++be (167772161 + sb) 4++be (3405803777 + a) 4++be (1024 + b * 8) 2++be (1024 + b * 8 + 8 - 1) 2) 1 1 (by decide) (by simp[Qh];omega)) ?_ ?_)<;>(have zf1:=@Qh;have zf2:=@hlk;refine XG ?_;clear zf1 zf2;(try first|exact rfl|exact True.intro);((try (repeat' with_reducible refine And.intro ?_ ?_));(try any_goals (first|refine zm ?_|exact CL|fail)))))
    refine ⟨k + 1,⟨by omega,by rw[hall2,hgd,ht];simp⟩,⟨[(0,7)],?_⟩,by omega⟩
    refine Qg @htk ?_
    simp[evB,e1,e2]
   | true =>
    (refine Qa (fun h5=>?_) (fun h5=>?_)<;>try exact h5.elim)
    refine Qd ?_
    ((first|refine Qy (ins:=[6]) (Qz c.gl (B++be t 8++be (167772161 + sb) 4++be (3405803777 + a) 4++be (1024 + b * 8) 2++be (1024 + b * 8 + 8 - 1) 2) 2 1 (by decide) (by simp[Qh];omega)) ?_ ?_|refine Qv (ins:=[6]) (Qz c.gl (B++be t 8++be (167772161 + sb) 4++be (3405803777 + a) 4++be (1024 + b * 8) 2++be (1024 + b * 8 + 8 - 1) 2) 2 1 (by decide) (by simp[Qh];omega)) ?_ ?_|refine Qu (ins:=[6]) (Qz c.gl (B++be t 8++be (167772161 + sb) 4++be (3405803777 + a) 4++be (1024 + b * 8) 2++be (1024 + b * 8 + 8 - 1) 2) 2 1 (by decide) (by simp[Qh];omega)) ?_ ?_|refine Qr (ins:=[6]) (Qz c.gl (B++be t 8++be (167772161 + sb) 4++be (3405803777 + a) 4++be (1024 + b * 8) 2++be (1024 + b * 8 + 8 - 1) 2) 2 1 (by decide) (by simp[Qh];omega)) ?_ ?_)<;>(have zf1:=@Qh;have zf2:=@hlk;refine XG ?_;clear zf1 zf2;(try first|exact rfl|exact True.intro);((try (repeat' with_reducible refine And.intro ?_ ?_));(try any_goals (first|refine zm ?_|exact CL|fail)))))
    refine ⟨k + 1,⟨by omega,by rw[hall2,hgd,ht];simp⟩,⟨[(0,7)],?_⟩,by omega⟩
    refine Qg @htk ?_
    simp[evB,e1,e2]
 ·have:k=L.length:=by omega
  subst this
  rw[List.take_length]at hall ⊢
  have hb:(Qb6 L).length≤10000000:=by rw[Qi8];omega
  have hm:=Qno c.gl seq e0.t 300 (Qb6 L) hb
  have e2:Qgj seq L=Qb8 seq e0.t 300 (Qb6 L):=by
   subst hL
   simp only[Qgj]
   rw[if_neg hlen2,if_pos hall]
  have hlB:=Qi8 L
  rw[e2]
  clear e2
  rw[hlB]at hm
  have hf:Jm (Qb8 seq e0.t 300 (Qb6 L)):=by
   unfold Qb8;split<;>exact .tup (by simp[Jm.str,Jm.int])
  unfold Qb8 at hm hf ⊢
  refine Qg @hc0 ?_
  split at hm
  ·rename_i hq
   rw[if_pos hq]at hf
   ((first|apply Wg|apply Ke)<;>(first|exact hm|(with_reducible exact hf)|(have zf1:=@hc0;have zf2:=@hlB;refine XG ?_;clear zf1 zf2;first|exact rfl|exact True.intro|((try (repeat' with_reducible refine And.intro ?_ ?_));(try any_goals (first|refine zm ?_|exact CL|fail))))))
   rw[if_pos (by assumption)]
  ·rename_i hq
   rw[if_neg hq]at hf
   ((first|apply Wg|apply Ke)<;>(first|exact hm|(with_reducible exact hf)|(have zf1:=@hc0;have zf2:=@hlB;refine XG ?_;clear zf1 zf2;first|exact rfl|exact True.intro|((try (repeat' with_reducible refine And.intro ?_ ?_));(try any_goals (first|refine zm ?_|exact CL|fail))))))
   rw[if_neg (by assumption)]
theorem NS.s34 {S:NS} (h:S.tb.wf) (v:Nat):S.cells.set 34 (.int .i64 v)=({ S with told:=v }:NS).cells:=NS.cells_set h 4 _
set_option maxHeartbeats 2000000 in
theorem Qz1 (gl:Nat→AV) (h0:gl 0=.xp (Qp Xo) 0) (S:NS) (T:WT) (hS:NJ S) (hT:T.wf) (htold:S.told≤100000) (l:List Ev) (hl:l.length≤64) (ha:∀ e ∈ l,Wv e.t e.s e.a e.b=true∧e.t=(l.headD ⟨0,0,0,0,false⟩).t) :
  GD Tryz.prog gl 95 [.ptr 67 0,.isl l.length (Zc l)] (Qm S T) 70 (List.range 70) (.str (Qff S.told l)) (Qm (S.log l) T):=by
 refine Xwm.gq (of_decide_eq_true rfl) (Ze hT) (fun b hb=>List.mem_range.1 hb) fun c hgh hg=>?_
 conv in tcO _ _=>cbv
 have hHi:=fun n b hb=>Yb (S:=S) hT n b hb
 have h67:=Jw S T
 have hcl:=NS.cells_len hS.wf
 have c34:=NS.c34 hS.wf
 have hTm:=Qy9 c.gl (by rw[hg];exact h0) 0
 unfold Qb8 at hTm
 rw[if_pos Zom]at hTm
 refine Qd ?_
 (refine Qa (fun h1=>?_) (fun h1=>?_)<;>try exact h1.elim)
 ·obtain rfl:l=[]:=List.eq_nil_of_length_eq_zero Zom
  refine Qd ?_
  exact ⟨(),To.ndrop (ex:=[]) hT Zsi (fun b hb=>List.mem_range.1 hb) (by simp[Qw,Qe,nmAll,look,ren,rens,Qff])⟩
 cases l with
 | nil=>simp at h1
 | cons e l =>
  have hM:=Xbd c.gl S.told (e::l) Zom
  have hall:Qjl e.t (e::l)=true:=by
   unfold Qjl
   rw[List.all_eq_true]
   intro x hx
   obtain ⟨g1,g2⟩:=ha x hx
   have g2:x.t=e.t:=g2
   rw[g1,g2];simp
  have hll:¬ 64 < l.length + 1:=by simp at hl;omega
  unfold Qgj at hM
  dsimp only at hM
  rw[if_neg hll,if_pos hall]at hM
  unfold Qb8 at hM
  rw[if_pos Zom]at hM
  have hs34:=NS.s34 hS.wf (S.told + (e::l).length)
  have hadd:(S.told:Int) + ((e::l).length:Nat)=((S.told + (e::l).length:Nat):Int):=by omega
  have hlog:Qff S.told (e::l)=(if S.told=0 then Qen 0 0 2 (Ud 6) else [])++Qen S.told e.t 300 (Qb6 (e::l)):=rfl
  rw[hlog]
  have hnl:(e::l).length=l.length + 1:=rfl
  have hB:(Qb6 (e::l)).length≤1400:=by rw[Qi8];omega
  have hE:=fun n=>Qbq n (e::l)
  simp only[List.length_cons]at hM hs34 hadd ⊢
  clear hnl
  generalize Zc (e::l)=E at *
  generalize Qb6 (e::l)=B at *
  have hML:(Qen S.told e.t 300 B).length≤100000:=by
   simp[Qen,Qh];omega
  generalize Qen S.told e.t 300 B=MB at *
  have hTL:(Qen 0 0 2 (Ud 6)).length≤100000:=by decide +kernel
  generalize Qen 0 0 2 (Ud 6)=TB at *
  have hend:∀ (t:List (Nat × AV)) (ex:List (Nat × Bk)) (n:Nat) (r:List UInt8),70≤n→To (List.range 70) ⟨[(0,.str r)],(67,.cells ({ S with told:=S.told + (l.length + 1) }:NS).cells)::Qm S T,70⟩ ⟨[(0,.str r)],Qm (S.log (e::l)) T,70⟩:=fun t ex n r hn =>
   To.nto id hT (fun b hb=>⟨rfl,List.mem_range.1 hb⟩) (fun b b' _ _ e=>e) (Xm8 (S':=S.log (e::l)) (ex:=[(67,_)]) rfl (by simp[NS.log]) rfl hT) (by simp[Qw,Qe,look,ren])
  by_cases hz:S.told=0
  ·rw[if_pos hz]
   refine Qg (An @h67 (An @hcl (An @c34 @hE))) ?_
   (refine Qa (fun h2=>?_) (fun h2=>?_)<;>try exact h2.elim)
   ·refine Qd ?_
    refine Xa hTm (An @h67 (An @hcl @c34)) ?_
    refine Qg (An @h67 (An @hcl (An @c34 @hE))) ?_
    refine Xa hM (An @hE (An @h67 (An @hcl (An @c34 (An @hadd (An @hs34 (An @hML @hTL))))))) ?_
    refine Qg (An @h67 (An @hcl (An @c34 (An @hadd (An @hs34 @hE))))) ?_
    exact ⟨(),hend [] [] 70 _ Zom⟩
   ·exact absurd hz Zom
  ·rw[if_neg hz]
   refine Qg (An @h67 (An @hcl (An @c34 @hE))) ?_
   (refine Qa (fun h2=>?_) (fun h2=>?_)<;>try exact h2.elim)
   ·exact absurd h2 Zom
   ·refine Qg (An @h67 (An @hcl (An @c34 @hE))) ?_
    refine Xa hM (An @hE (An @h67 (An @hcl (An @c34 (An @hadd (An @hs34 (An @hML @hTL))))))) ?_
    refine Qg (An @h67 (An @hcl (An @c34 (An @hadd (An @hs34 @hE))))) ?_
    exact ⟨(),hend [] [] 70 _ Zom⟩
section
variable {P:Program} {c:Cx}
theorem Qu6 {d:Option Nat} {f:FuncId} {xs:List TV} {args:List AV} {T:WT} {n:Nat} {r:AV} {t:List (Nat × AV)} {ex:List (Nat × Bk)} {r0:List TOp} {K:St→Prop} (hq:GD P c.gl f args T.hb 67 (List.range 67) r T.hb) (hT:T.wf) (hn:67≤n) (hex:∀ q ∈ ex,67≤q.1∧q.1 < n)
  (hc:Qt none (evs c.gl (⟨t,ex++T.hb,n⟩:St).fs xs)∧(evs c.gl (⟨t,ex++T.hb,n⟩:St).fs xs).map Qj=args∧nmAll 67 args) (hr:Qe 0 r) (h:XP P c r0 K (St.putO ⟨t,ex++T.hb,n + 67⟩ d r)):Yc P c (.pd d (.call f) xs none) r0 K ⟨t,ex++T.hb,n⟩:=by
 have e:ex++T.hb=ex++Xd id T.hb:=by rw[Jn]
 rw[e]at hc h ⊢
 refine Xb3 (v:=false) hq (gx1 hT (fun b hb=>List.mem_range.1 hb) hn hex ⟨hc.1,?_,hc.2.2⟩) rfl (WT.HLb hT) (by have:=Qc7 (Nat.zero_le 67) (x:=.cells [r]) (by simpa [nmB,nmAll] using hr);simpa [nmB,nmAll] using this) (by rw[Xgy hT hr];exact h)
 rw[hc.2.1];rfl
end
set_option maxHeartbeats 2000000 in
theorem Qz0 (gl:Nat→AV) (S:NS) (T:WT) (D:List Tm) (hS:NJ S) (hW:WI T S.now D):GD Tryz.prog gl 21 [.ptr 67 0] (Qm S T) 70 (List.range 70) (.int .i64 S.now) (Qm S T):=by
 have hT:=hW.wf
 refine Xvw.gq (of_decide_eq_true rfl) (Ze hT) (fun b hb=>List.mem_range.1 hb) fun c hgh hg=>?_
 conv in tcO _ _=>cbv
 have h67:=Jw S T
 have hcl:=NS.cells_len hS.wf
 have c33:=NS.c33 hS.wf
 have hnow:=hW.now_gd c.gl
 refine Qd ?_
 (refine Qa (fun h1=>?_) (fun h1=>?_)<;>try exact h1.elim)
 refine Qg (An @h67 (An @hcl @c33)) ?_
 refine Qu6 (ex:=[(67,_),(68,_),(69,_)]) hnow hT Zde Zsi (by exact Qs) (by simp[Qe]) ?_
 refine Qd ?_
 exact ⟨(),To.ndrop (ex:=[]) hT Zsi (fun b hb=>List.mem_range.1 hb) (by simp[Qw,Qe,nmAll,look,ren,rens])⟩
section
variable {P:Program} {c:Cx}
theorem Qk7 {d:Option Nat} {f:FuncId} {xs:List TV} {args:List AV} {T:WT} {n:Nat} {r:AV} {t:List (Nat × AV)} {ex:List (Nat × Bk)} {anc:List Nat} {fs:List Foot} {r0:List TOp} {K:St→Prop} (hq:GD P c.gl f args T.hb 67 (List.range 67) r T.hb) (hT:T.wf) (hn:67≤n) (hex:∀ q ∈ ex,67≤q.1∧q.1 < n)
  (hc:Qt none (evs c.gl (⟨t,ex++T.hb,n⟩:St).fs xs)∧(evs c.gl (⟨t,ex++T.hb,n⟩:St).fs xs).map Qj=args∧nmAll 67 args) (hr:Qe 0 r) (h:XD P c anc r0 (⟨Xj xs,gxN id 67 n,d.toList,gxN id 67 n⟩::fs) K (St.putO ⟨t,ex++T.hb,n + 67⟩ d r)):Za P c anc (.pd d (.call f) xs none) r0 fs K ⟨t,ex++T.hb,n⟩:=by
 have e:ex++T.hb=ex++Xd id T.hb:=by rw[Jn]
 rw[e]at hc h ⊢
 refine Qsv (v:=false) hq (gx1 hT (fun b hb=>List.mem_range.1 hb) hn hex ⟨hc.1,?_,hc.2.2⟩) rfl (WT.HLb hT) (by have:=Qc7 (Nat.zero_le 67) (x:=.cells [r]) (by simpa [nmB,nmAll] using hr);simpa [nmB,nmAll] using this) (by rw[Xgy hT hr];exact h)
 rw[hc.2.1];rfl
end
set_option maxHeartbeats 2000000 in
theorem Qpn (gl:Nat→AV) (S:NS) (T:WT) (D:List Tm) (hS:NB S) (hW:WI T S.now D) (m:Mp) (hm:MpB m) (free:Bool):GD Tryz.prog gl 90 [.ptr 67 0,.agg m.enc,.bool free] (Qm S T) 70 (List.range 70) (.isl 1 (Zc [S.ev m free])) (Qm S T):=by
 have hT:=hW.wf
 refine Xl2.gq (of_decide_eq_true rfl) (Ze hT) (fun b hb=>List.mem_range.1 hb) fun c hgh hg=>?_
 conv in tcO _ _=>cbv
 have hHi:=fun n b hb=>Yb (S:=S) hT n b hb
 have h67:=Jw S T
 have hcl:=NS.cells_len hS.wf
 have c33:=NS.c33 hS.wf
 have hnow:=hW.now_gd c.gl
 have hB:=Qgl c.gl m.port hm.2.2.2.2
 unfold Qk0 at hB
 obtain ⟨mp,ms,mi,ma,mt⟩:=m
 unfold NS.ev Mp.enc
 dsimp only at hB ⊢
 refine Qg @hHi ?_
 refine Xa hB (An @hHi (An @h67 (An @hcl @c33))) ?_
 refine Qk7 (ex:=[(70,_),(67,_),(68,_),(69,_)]) hnow hT Zde Zsi (by exact Qs) (by simp[Qe]) ?_
 refine Qd ?_
 have hTb:=fun n b hb=>WT.hbHi hT n (b:=b) hb
 refine Zr (An @hHi @hTb) ?_
 refine Qg (An @hHi @hTb) ?_
 refine ⟨(),(To.frz (b:=138) (i:=0) rfl rfl).trans (To.ndrop (S:=S) (T:=T) (ex:=[(138,.dead),(138,_),(70,_)]) hT Zsi (fun b hb=>List.mem_range.1 hb) ?_)⟩
 simp[Qw,Qe,nmAll,look,ren,rens,Zc,Ev.enc]
theorem Xyf {S:NS} {t:Tm} (h:t ∈ S.tms):∃ q ∈ S.fl,t.id=q.1∧t.due=q.2.due.toNat:=by
 obtain ⟨q,hq,rfl⟩:=List.mem_map.1 h
 exact ⟨q,hq,rfl,rfl⟩
theorem Xh0 {S:NS} (h:NB S) (hl:S.fl.length < 48) {D:List Tm} (hD:D.Perm S.tms) (f:Fl) :
  Qm7 S.now D (S.nxt + 1) (S.now + Ju f.map.proto f.st)=(0,D++[⟨S.nxt + 1,(S.now + Ju f.map.proto f.st).toNat⟩])∧List.Perm (D++[(⟨S.nxt + 1,(S.now + Ju f.map.proto f.st).toNat⟩:Tm)]) (S.begin f).tms:=by
 have hb:=Qkf f.map.proto f.st
 have hn:=h.now
 have hlen:D.length < 400:=by rw[hD.length_eq];simp[NS.tms];omega
 have hne:∀ t ∈ D,t.id≠S.nxt + 1:=fun t ht e=>by
  obtain ⟨q,hq,e1,_⟩:=Xyf (hD.mem_iff.1 ht)
  have:=(h.ids q hq).2
  omega
 refine ⟨?_,?_⟩
 ·unfold Qm7
  rw[if_neg Zom,if_neg Zom]
  have e:Wm D (S.nxt + 1) (max (S.now + Ju f.map.proto f.st).toNat S.now)=D++[⟨S.nxt + 1,(S.now + Ju f.map.proto f.st).toNat⟩]:=by
   unfold Wm
   rw[Qii hne,show max (S.now + Ju f.map.proto f.st).toNat S.now=(S.now + Ju f.map.proto f.st).toNat by omega]
  rw[e]
 ·have e:(S.begin f).tms=S.tms++[⟨S.nxt + 1,(S.now + Ju f.map.proto f.st).toNat⟩]:=by
   simp[NS.tms,NS.begin]
  rw[e]
  exact hD.append_right _
def nr (σ:Nat→Nat) (k b:Nat):Nat:=if b < 67 then σ b else if b=69 then k else b
theorem Ki {σ:Nat→Nat} {k b:Nat} (h:b < 67):nr σ k b=σ b:=if_pos h
def NS.tlr (S:NS) (k w:Nat):List AV:=[.mp 68,.sl 1 k 0 S.fl.length S.fl.length,.int .i64 S.nxt,.ptr w 0,.int .i64 S.told,.int .i64 S.ref,.int .i64 S.acts,.bool S.loose]
theorem NS.cells_ren (S:NS) (ρ:Nat→Nat):rens ρ S.cells=S.tb.enc++[.mp (ρ 68),.sl 1 (ρ 69) 0 S.fl.length S.fl.length,.int .i64 S.nxt,.ptr (ρ 0) 0,.int .i64 S.told,.int .i64 S.ref,.int .i64 S.acts,.bool S.loose]:=by
 unfold NS.cells NS.tl
 rw[Qfv,Tb.enc_rens]
 simp[rens,ren]
theorem Qyx (ρ:Nat→Nat) (l:List (Int × Fl)):Xf ρ (.mapb (kvF l) false)=.mapb (kvF l) false:=by
 simp only[Xf]
 congr 1
 refine (List.map_congr_left fun q hq=>?_).trans (List.map_id _)
 obtain ⟨h1,h2⟩:=Xly 0 l q hq
 show (ren ρ q.1,ren ρ q.2)=q
 rw[Km h1,Km h2]
theorem Qpy (ρ:Nat→Nat) (l:List Int):Xf ρ (.cells (Qp l))=.cells (Qp l):=by
 simp only[Xf,Qcx]
theorem To.natW {p:List Nat} {t t':List (Nat × AV)} {ex:List (Nat × Bk)} {S:NS} {T:WT} {σ:Nat→Nat} {n k:Nat} (hT:T.wf) (hp:∀ b ∈ p,b=67∨b=68) (hinj:∀ b b',b < 67→b' < 67→σ b=σ b'→b=b') (hex:∀ q ∈ ex,∀ b,b < 67→σ b≠q.1) (hk:k≠67∧k≠68) (hin:∀ b,b < 67→σ b≠67∧σ b≠68∧σ b≠k)
  (e67:Qb (ex++Xd σ T.hb) n 67=.cells (S.tb.enc++S.tlr k (σ 0))) (e68:Qb (ex++Xd σ T.hb) n 68=.mapb (kvF S.fl) false) (e69:Qb (ex++Xd σ T.hb) n k=.cells (Qp S.keys)) (ht:Qw (nr σ k) 70 t t'):To p ⟨t,ex++Xd σ T.hb,n⟩ ⟨t',Qm S T,70⟩:=by
 have n67:nr σ k 67=67:=rfl
 have n68:nr σ k 68=68:=rfl
 have n69:nr σ k 69=k:=rfl
 refine To.nto (nr σ k) hT (fun b hb=>?_) (fun b b' hb hb' e=>?_) (fun b hb=>?_) ht
 ·rcases hp b hb with rfl|rfl<;>exact ⟨rfl,by decide⟩
 ·rcases (by omega:b < 67∨b=67∨b=68∨b=69) with h|rfl|rfl|rfl<;>rcases (by omega:b' < 67∨b'=67∨b'=68∨b'=69) with h'|rfl|rfl|rfl
  ·rw[Ki h,Ki h']at e;exact hinj _ _ h h' e
  ·rw[Ki h]at e;exact absurd e (hin _ h).1
  ·rw[Ki h]at e;exact absurd e (hin _ h).2.1
  ·rw[Ki h]at e;exact absurd e (hin _ h).2.2
  ·rw[Ki h']at e;exact absurd e.symm (hin _ h').1
  ·rfl
  ·cases e
  ·exact absurd e.symm hk.1
  ·rw[Ki h']at e;exact absurd e.symm (hin _ h').2.1
  ·cases e
  ·rfl
  ·exact absurd e.symm hk.2
  ·rw[Ki h']at e;exact absurd e.symm (hin _ h').2.2
  ·exact absurd e hk.1
  ·exact absurd e hk.2
  ·rfl
 ·rcases (by omega:b < 67∨b=67∨b=68∨b=69) with h|rfl|rfl|rfl
  ·rw[Ki h,Xa3 hT hinj hex h]
   have e:Qb (Qm S T) 70 b=Qb T.hb 67 b:=by
    unfold Qm
    rw[Qc,if_neg Zom,Qc,if_neg Zom,Qc,if_neg Zom]
    exact ((WT.HLb hT).live h 70).1
   rw[e]
   exact Ww (n:=67) (fun b hb=>(Ki hb).symm) (Qlu hT h).2
  ·rw[n67,e67,Jw]
   show _=Bk.cells (rens (nr σ k) S.cells)
   rw[NS.cells_ren,n68,n69,Ki (by decide:0 < 67)]
   rfl
  ·rw[n68,e68,Qgc,Qyx]
  ·rw[n69,e69,Qg8,Qpy]
theorem NS.s32 {S:NS} (h:S.tb.wf) (v:Int):S.cells.set 32 (.int .i64 v)=({ S with nxt:=v }:NS).cells:=NS.cells_set h 2 _
set_option maxHeartbeats 4000000 in
theorem Qpf (gl:Nat→AV) (S:NS) (T:WT) (D:List Tm) (hS:NB S) (hnx:S.nxt≤1000000) (hW:WI T S.now D) (hD:D.Perm S.tms) (hl:S.fl.length < 48) (m:Mp) (r rp st:Int):∃ T' D',WI T' S.now D'∧D'.Perm (S.begin ⟨m,r,rp,st,0,0⟩).tms ∧
  GD Tryz.prog gl 91 [.ptr 67 0,.agg (Fl.enc ⟨m,r,rp,st,0,0⟩)] (Qm S T) 70 [67] (.tup []) (Qm (S.begin ⟨m,r,rp,st,0,0⟩) T'):=by
 have hT:=hW.wf
 obtain ⟨ha,hperm⟩:=Xh0 hS hl hD ⟨m,r,rp,st,0,0⟩
 obtain ⟨T',hW',harm⟩:=hW.arm_gd gl (S.nxt + 1) (S.now + Ju m.proto st)
 dsimp only at ha hperm
 rw[ha]at hW' harm
 refine ⟨T',_,hW',hperm,?_⟩
 dsimp only at harm
 have hT':=hW'.wf
 clear hW' hperm ha
 refine Xhd.gq (of_decide_eq_true rfl) (Ze hT) Zsi fun c hgh hg=>?_
 subst hg
 conv in tcO _ _=>cbv
 have hHi:=fun n b hb=>Yb (S:=S) hT n b hb
 have h67:=Jw S T
 have h68:=Qgc S T
 have h69:=Qg8 S T
 have hcl:=NS.cells_len hS.wf
 have c32:=NS.c32 hS.wf
 have s32:=NS.s32 hS.wf (S.nxt + 1)
 have hcl':=NS.cells_len (S:={ S with nxt:=S.nxt + 1 }) hS.wf
 have d30:=NS.c30 (S:={ S with nxt:=S.nxt + 1 }) hS.wf
 have d31:=NS.c31 (S:={ S with nxt:=S.nxt + 1 }) hS.wf
 have d32:=NS.c32 (S:={ S with nxt:=S.nxt + 1 }) hS.wf
 have d33:=NS.c33 (S:={ S with nxt:=S.nxt + 1 }) hS.wf
 dsimp only at d31 d32
 have s31:∀ v,({ S with nxt:=S.nxt + 1 }:NS).cells.set 31 v=S.tb.enc++({ S with nxt:=S.nxt + 1 }:NS).tl.set 1 v:=fun v=>NS.cells_set (S:={ S with nxt:=S.nxt + 1 }) hS.wf 1 v
 generalize ({ S with nxt:=S.nxt + 1 }:NS).cells=C1 at *
 have hnow:=hW.now_gd c.gl
 have hlife:=Qzy c.gl m.proto st
 have hlb:=Qkf m.proto st
 have hn:=hS.now
 have hnx0:=hS.nx0
 obtain ⟨mp,ms,mi,ma,mt⟩:=m
 unfold Fl.enc Kw
 dsimp only at hlife hlb harm ⊢
 obtain ⟨L,hL⟩:∃ L,L=Ju mp st:=⟨_,rfl⟩
 rw[← hL]at hlife hlb harm
 refine Qg (An @hHi (An @h67 (An @hcl (An @c32 @s32)))) ?_
 refine Qk7 (ex:=[(67,_),(70,_),(67,_),(68,_),(69,_)]) hnow hT Zde Zsi (by exact Qq (An @hcl' @d33)) (by simp[Qe]) ?_
 refine Qd ?_
 have hTb:=fun n b hb=>WT.hbHi hT n (b:=b) hb
 have hks:=Qce S.fl
 have hki:=Uo (S.nxt + 1)
 have hup:=Xry (l:=S.fl) (x:=S.nxt + 1) (fun q hq e=>by have:=(hS.ids q hq).2;omega) ⟨⟨mp,ms,mi,ma,mt⟩,r,rp,st,0,S.now + L⟩
 unfold Fl.enc Kw at hup
 dsimp only at hup
 have hkl:=Qfl S
 ((first|apply Yq|apply Ya|apply Xs|apply Xm)<;>(first|exact hlife|(refine XG ?_;first|exact rfl|exact True.intro|((try (repeat' with_reducible refine And.intro ?_ ?_));(try any_goals (first|refine zm ?_|exact CL|fail))))))
 exact Qq (An @d33 (An @d32 (An @d30 @hcl')))
 ((first|refine Qja Ko ?_|refine Qh8 Ko ?_);(have zf1:=@hks;have zf2:=@hki;have zf3:=@hup;have zf4:=@d33;have zf5:=@d32;have zf6:=@d30;have zf7:=@hcl';refine XG ?_;clear zf1 zf2 zf3 zf4 zf5 zf6 zf7;((try (repeat' with_reducible refine And.intro ?_ ?_));(try any_goals (first|refine zm ?_|exact CL|fail)))))
 refine Qg (An @d31 (An @d32 @hcl')) ?_
 have f33:(C1.set 31 (AV.sl 1 139 0 (S.fl.length + 1) (S.fl.length + 1))).getD 33 AV.any=.ptr 0 0:=by rw[Qbk (by rw[hcl'];decide),if_neg Zde];exact d33
 have f32:(C1.set 31 (AV.sl 1 139 0 (S.fl.length + 1) (S.fl.length + 1))).getD 32 AV.any=.int .i64 (S.nxt + 1):=by rw[Qbk (by rw[hcl'];decide),if_neg Zde];exact d32
 refine Zr (An @hTb @hkl) ?_
 refine Zr (An @hTb (An @hkl (An @hcl' (An @f33 @f32)))) ?_
 have hC2:=s31 (.sl 1 139 0 (S.fl.length + 1) (S.fl.length + 1))
 refine Qki (v:=false) (ex:=[(67,_),(139,_),(69,_),(138,_),(68,_),(70,_),(67,_),(70,_),(67,_),(68,_),(69,_)]) harm (WT.HLb hT) (WT.HLb hT') (by simp[Qe]) Zde Zde Zsi rfl ?_ ?_
 ·exact Qq (An @Xg (An @f33 @f32))
 rw[Qu9 (by simp[Qe])]
 refine Qd ?_
 refine ⟨(),To.natW (p:=[67]) (n:=207) (σ:=mv1 140) (ex:=[(67,_),(139,_),(69,_),(138,_),(68,_),(70,_),(67,_),(70,_),(67,_),(68,_),(69,_)]) (k:=139) hT' Zsi (fun b b' h h' e=>Qot Zde h h' e) ?_ Zde ?_ ?_ ?_ ?_ (by simp[Qw,Qe,nmAll,look,ren,rens])⟩
 ·intro q hq b hb e
  have h1:mv1 140 b < 2∨142≤mv1 140 b:=by unfold mv1;split<;>omega
  simp at hq
  rcases hq with rfl|rfl|rfl|rfl|rfl|rfl|rfl|rfl|rfl|rfl|rfl<;>dsimp only at e<;>omega
 ·intro b hb
  have h1:mv1 140 b < 2∨142≤mv1 140 b:=by unfold mv1;split<;>omega
  omega
 ·show Bk.cells _=_
  rw[hC2]
  simp[NS.begin,NS.tlr,NS.tl,Yay]
 ·show Bk.mapb _ _=_
  simp only[NS.begin,← hL]
 ·show Bk.cells _=_
  simp[NS.begin,NS.keys]
theorem Qfd {l:List (Int × Fl)} (hd:l.Pairwise fun p q=>p.1≠q.1) {q r:Int × Fl} (hq:q ∈ l) (hr:r ∈ l) (e:q.1=r.1):q=r:=by
 have hp:=List.pairwise_iff_getElem.1 hd
 obtain ⟨i,hi,rfl⟩:=List.getElem_of_mem hq
 obtain ⟨j,hj,rfl⟩:=List.getElem_of_mem hr
 rcases Nat.lt_trichotomy i j with h1|h1|h1
 ·exact (hp i j hi hj h1 e).elim
 ·subst h1;rfl
 ·exact (hp j i hj hi h1 e.symm).elim
theorem Qzi {S:NS} (hd:S.fl.Pairwise fun p q=>p.1≠q.1) {q:Int × Fl} (hq:q ∈ S.fl) (p:Pk) (inw:Bool):(S.goes q.1 p inw).fl=S.fl.map fun r=>if r.1=q.1 then (r.1,q.2.next p inw S.now) else r:=by
 unfold NS.goes
 refine List.map_congr_left fun r hr=>?_
 split
 ·rename_i e
  rw[Qfd hd hr hq e]
 ·rfl
theorem Qsd {S:NS} (hd:S.fl.Pairwise fun p q=>p.1≠q.1) {q:Int × Fl} (hq:q ∈ S.fl) (p:Pk) (inw:Bool):∃ A B:List Tm,S.tms=A++⟨q.1,q.2.due.toNat⟩::B∧(S.goes q.1 p inw).tms=A++⟨q.1,(q.2.next p inw S.now).due.toNat⟩::B∧∀ t ∈ A++B,t.id≠q.1:=by
 obtain ⟨i,hi,rfl⟩:=List.getElem_of_mem hq
 have hs:S.fl=S.fl.take i++S.fl[i]::S.fl.drop (i + 1):=by rw[← List.drop_eq_getElem_cons hi,List.take_append_drop]
 have hpw:=List.pairwise_iff_getElem.1 hd
 have hA:∀ r ∈ S.fl.take i,r.1≠S.fl[i].1:=fun r hr=>by
  obtain ⟨j,hj,rfl⟩:=List.getElem_of_mem hr
  rw[List.length_take]at hj
  rw[List.getElem_take]
  exact hpw j i Zom hi Zom
 have hB:∀ r ∈ S.fl.drop (i + 1),r.1≠S.fl[i].1:=fun r hr=>by
  obtain ⟨j,hj,rfl⟩:=List.getElem_of_mem hr
  rw[List.length_drop]at hj
  rw[List.getElem_drop]
  exact (hpw i (i + 1 + j) hi Zom Zom).symm
 have hid:∀ l:List (Int × Fl),(∀ r ∈ l,r.1≠S.fl[i].1)→(l.map fun r=>if r.1=S.fl[i].1 then (r.1,S.fl[i].2.next p inw S.now) else r)=l:=fun l hl=>(List.map_congr_left fun r hr=>by rw[if_neg (hl r hr)];rfl).trans (List.map_id l)
 refine ⟨(S.fl.take i).map fun q=>⟨q.1,q.2.due.toNat⟩,(S.fl.drop (i + 1)).map fun q=>⟨q.1,q.2.due.toNat⟩,?_,?_,?_⟩
 ·unfold NS.tms
  conv=>lhs;rw[hs]
  rw[List.map_append,List.map_cons]
 ·unfold NS.tms
  rw[Qzi hd (List.getElem_mem hi)]
  have:(S.fl.map fun r=>if r.1=S.fl[i].1 then (r.1,S.fl[i].2.next p inw S.now) else r)=S.fl.take i++(S.fl[i].1,S.fl[i].2.next p inw S.now)::S.fl.drop (i + 1):=by
   generalize hx:S.fl[i]=x at *
   conv=>lhs;rw[hs]
   rw[List.map_append,List.map_cons,hid _ hA,hid _ hB,if_pos rfl]
  rw[this,List.map_append,List.map_cons]
 ·intro t ht
  rcases List.mem_append.1 ht with ht|ht
  ·obtain ⟨r,hr,rfl⟩:=List.mem_map.1 ht
   exact hA r hr
  ·obtain ⟨r,hr,rfl⟩:=List.mem_map.1 ht
   exact hB r hr
theorem Xpr {S:NS} (h:NJ S) {D:List Tm} (hD:D.Perm S.tms) {q:Int × Fl} (hq:q ∈ S.fl) (p:Pk) (inw:Bool) (hd:(S.now:Int) + 4≤(q.2.next p inw S.now).due∧(q.2.next p inw S.now).due≤S.now + 60) :
  ∃ D',Qm7 S.now D q.1 (q.2.next p inw S.now).due=(0,D')∧D'.Perm (S.goes q.1 p inw).tms:=by
 obtain ⟨A,B,e1,e2,e3⟩:=Qsd h.dis hq p inw
 have hn:=h.now
 have hmem:(⟨q.1,q.2.due.toNat⟩:Tm) ∈ D:=hD.mem_iff.2 (by rw[e1];simp)
 have hhas:Qa4 D q.1=true:=List.any_eq_true.2 ⟨_,hmem,by simp⟩
 refine ⟨Wm D q.1 (q.2.next p inw S.now).due.toNat,?_,?_⟩
 ·unfold Qm7
  rw[if_neg Zom,if_neg (by rw[hhas];simp),show max (q.2.next p inw S.now).due.toNat S.now=(q.2.next p inw S.now).due.toNat by omega]
 ·unfold Wm
  rw[e2]
  refine (List.perm_append_singleton _ _).trans ?_
  refine List.Perm.trans ?_ List.perm_middle.symm
  refine List.Perm.cons _ ?_
  have h1:(Xv q.1 D).Perm (Xv q.1 S.tms):=hD.filter _
  refine h1.trans ?_
  rw[e1]
  unfold Xv
  rw[List.filter_append,List.filter_cons,if_neg Zsi,← List.filter_append,List.filter_eq_self.2 fun t ht=>by simpa using e3 t ht]
theorem Xgu {S:NS} (h:NJ S) {q:Int × Fl} (hq:q ∈ S.fl) (p:Pk) (inw:Bool) (hd:(q.2.next p inw S.now).due=q.2.due):(S.goes q.1 p inw).tms=S.tms:=by
 obtain ⟨A,B,e1,e2,_⟩:=Qsd h.dis hq p inw
 rw[e1,e2,hd]
theorem To.natI {p:List Nat} {t t':List (Nat × AV)} {ex:List (Nat × Bk)} {S:NS} {T:WT} {n k:Nat} (hT:T.wf) (hp:∀ b ∈ p,b=67∨b=68) (hex:∀ q ∈ ex,67≤q.1) (hk:k≠67∧k≠68) (hk2:67≤k)
  (e67:Qb (ex++T.hb) n 67=.cells (S.tb.enc++S.tlr k 0)) (e68:Qb (ex++T.hb) n 68=.mapb (kvF S.fl) false) (e69:Qb (ex++T.hb) n k=.cells (Qp S.keys)) (ht:Qw (nr id k) 70 t t'):To p ⟨t,ex++T.hb,n⟩ ⟨t',Qm S T,70⟩:=by
 have:=To.natW (p:=p) (t:=t) (t':=t') (ex:=ex) (S:=S) (σ:=id) (n:=n) (k:=k) hT hp (fun b b' _ _ e=>e) (fun q hq b hb e=>by have:=hex q hq;have e:b=q.1:=e;omega) hk (fun b hb=>by show b≠67∧b≠68∧b≠k;omega)
 rw[Jn]at this
 exact this e67 e68 e69 ht
theorem Xid {S:NS} (hd:S.fl.Pairwise fun p q=>p.1≠q.1) {q:Int × Fl} (hq:q ∈ S.fl) (p:Pk) (inw:Bool):Qel (kvF S.fl) (.int .i64 q.1) (.agg (q.2.next p inw S.now).enc)=kvF (S.goes q.1 p inw).fl:=by
 rw[Qzi hd hq]
 obtain ⟨i,hi,rfl⟩:=List.getElem_of_mem hq
 exact Xxk hd hi _
theorem Qi9 {l:List (Int × Fl)} (hd:l.Pairwise fun p q=>p.1≠q.1) {q:Int × Fl} (hq:q ∈ l) (z:AV):Qem (kvF l) (.int .i64 q.1) z=.agg q.2.enc:=by
 obtain ⟨i,hi,rfl⟩:=List.getElem_of_mem hq
 exact Qld hd hi z
theorem Xlq (S:NS) (k:Int) (p:Pk) (inw:Bool):(S.goes k p inw).keys=S.keys:=by
 unfold NS.keys NS.goes
 rw[List.map_map]
 exact List.map_congr_left fun q _=>by dsimp only[Function.comp];split<;>rfl
theorem Xt7 (S:NS) (k:Int) (p:Pk) (inw:Bool):(S.goes k p inw).fl.length=S.fl.length:=by unfold NS.goes;exact List.length_map ..
set_option maxHeartbeats 4000000 in
theorem Quu (gl:Nat→AV) (S:NS) (T:WT) (D:List Tm) (hS:NI S) (hW:WI T S.now D) (hD:D.Perm S.tms) (q:Int × Fl) (hq:q ∈ S.fl) (p:Pk) (inw:Bool):∃ T' D',WI T' S.now D'∧D'.Perm (S.goes q.1 p inw).tms ∧
  GD Tryz.prog gl 93 [.ptr 67 0,.int .i64 q.1,.agg p.enc,.bool inw] (Qm S T) 70 [67] (.tup []) (Qm (S.goes q.1 p inw) T'):=by
 have hT:=hW.wf
 have hnow':=hS.now
 have hcs:=Qsw q.2.map.proto q.2.st q.2.side q.2.due p.flags inw (now:=S.now) Zom Zom
 have hga:=Qi9 hS.dis hq (.agg Fl.zero)
 have hup:=Xid hS.dis hq p inw
 have hgk:=Xlq S q.1 p inw
 have hgl:=Xt7 S q.1 p inw
 have htb:(S.goes q.1 p inw).tb=S.tb:=rfl
 have hki:=Uo q.1
 have hks:=Qce S.fl
 have hkl:=Qfl S
 by_cases hsame:(q.2.next p inw S.now).due=q.2.due
 ·refine ⟨T,D,hW,by rw[Xgu hS.toNJ hq p inw hsame];exact hD,?_⟩
  refine Qvn.gq (of_decide_eq_true rfl) (Ze hT) Zsi fun c hgh hg=>?_
  subst hg
  conv in tcO _ _=>cbv
  have hHi:=fun n b hb=>Yb (S:=S) hT n b hb
  have h67:=Jw S T
  have h68:=Qgc S T
  have h69:=Qg8 S T
  have hcl:=NS.cells_len hS.wf
  have c30:=NS.c30 hS.wf
  have c33:=NS.c33 hS.wf
  have hTb:=fun n b hb=>WT.hbHi hT n (b:=b) hb
  have hnow:=hW.now_gd c.gl
  obtain ⟨k,f⟩:=q
  obtain ⟨⟨mp,ms,mi,ma,mt⟩,r,rp,st,sd,du⟩:=f
  obtain ⟨p1,p2,p3,p4,p5,p6,p7,p8,p9,p10,p11,pb⟩:=p
  have hN:=Qys c.gl mp ms mi ma mt r rp st sd du p1 p2 p3 p4 p5 p6 p7 p8 p9 p10 p11 pb inw S.now
  unfold Fl.next at hup hsame
  unfold Fl.enc Kw at hga hup
  unfold Kw at hN
  unfold Pk.enc
  dsimp only at hga hup hN hki hsame hgk hgl ⊢
  generalize Qbr mp st sd du p8 inw S.now=x at *
  obtain ⟨x1,x2,x3⟩:=x
  dsimp only at hup hN hsame
  subst hsame
  refine Qg (An @hHi (An @h67 (An @hcl @c30))) ?_
  ((first|refine Qa3 Ko ?_|refine Ub Ko ?_);(have zf1:=@h68;have zf2:=@hks;have zf3:=@hki;have zf4:=@hga;have zf5:=@hHi;have zf6:=@h67;have zf7:=@hcl;have zf8:=@c33;refine XG ?_;clear zf1 zf2 zf3 zf4 zf5 zf6 zf7 zf8;((try (repeat' with_reducible refine And.intro ?_ ?_));(try any_goals (first|refine zm ?_|exact CL|fail)))))
  refine Qk7 (ex:=[(70,_),(67,_),(68,_),(69,_)]) hnow hT Zde Zsi (by exact Qq (An @hcl @c33)) (by simp[Qe]) ?_
  refine Qd ?_
  refine Xa hN @hTb ?_
  refine Qg (An @hcl (An @c30 @hTb)) ?_
  ((first|refine Qa3 Ko ?_|refine Ub Ko ?_);(have zf1:=@hks;have zf2:=@hki;have zf3:=@hga;have zf4:=@hcl;have zf5:=@c30;have zf6:=@hTb;refine XG ?_;clear zf1 zf2 zf3 zf4 zf5 zf6;((try (repeat' with_reducible refine And.intro ?_ ?_));(try any_goals (first|refine zm ?_|exact CL|fail)))))
  (refine Qa (fun h1=>?_) (fun h1=>?_)<;>try exact h1.elim)
  refine Qg (An @hcl @c30) ?_
  ((first|refine Qja Ko ?_|refine Qh8 Ko ?_);(have zf1:=@hks;have zf2:=@hki;have zf3:=@hup;have zf4:=@hcl;have zf5:=@c30;refine XG ?_;clear zf1 zf2 zf3 zf4 zf5;((try (repeat' with_reducible refine And.intro ?_ ?_));(try any_goals (first|refine zm ?_|exact CL|fail)))))
  refine ⟨(),To.natI (ex:=[(68,_),(138,_),(138,_),(70,_),(67,_),(68,_),(69,_)]) (k:=69) hT Zsi Zsi Zde Zde ?_ rfl ?_ (by simp[Qw,Qe,nmAll,look,ren,rens])⟩
  ·show Bk.cells _=_
   unfold NS.cells NS.tl NS.tlr
   rw[hgl]
   rfl
  ·show Bk.cells _=_
   rw[hgk]
 obtain ⟨hb1,hb2⟩:(S.now:Int) + 4≤(q.2.next p inw S.now).due∧(q.2.next p inw S.now).due≤S.now + 60:=by
  rcases hcs with h|⟨d,h1,h2,h3⟩
  ·exact absurd h hsame
  ·have:(q.2.next p inw S.now).due=S.now + d:=h3
   omega
 obtain ⟨D',harm0,hperm⟩:=Xpr hS.toNJ hD hq p inw ⟨hb1,hb2⟩
 obtain ⟨T',hW',harm⟩:=hW.arm_gd gl q.1 (q.2.next p inw S.now).due
 rw[harm0]at hW' harm
 refine ⟨T',D',hW',hperm,?_⟩
 have hT':=hW'.wf
 clear hperm harm0 hW'
 refine Qvn.gq (of_decide_eq_true rfl) (Ze hT) Zsi fun c hgh hg=>?_
 subst hg
 conv in tcO _ _=>cbv
 have hHi:=fun n b hb=>Yb (S:=S) hT n b hb
 have h67:=Jw S T
 have h68:=Qgc S T
 have h69:=Qg8 S T
 have hcl:=NS.cells_len hS.wf
 have c30:=NS.c30 hS.wf
 have c33:=NS.c33 hS.wf
 have hTb:=fun n b hb=>WT.hbHi hT n (b:=b) hb
 have hnow:=hW.now_gd c.gl
 obtain ⟨k,f⟩:=q
 obtain ⟨⟨mp,ms,mi,ma,mt⟩,r,rp,st,sd,du⟩:=f
 obtain ⟨p1,p2,p3,p4,p5,p6,p7,p8,p9,p10,p11,pb⟩:=p
 have hN:=Qys c.gl mp ms mi ma mt r rp st sd du p1 p2 p3 p4 p5 p6 p7 p8 p9 p10 p11 pb inw S.now
 unfold Fl.next at hup hsame harm
 unfold Fl.enc Kw at hga hup
 unfold Kw at hN
 unfold Pk.enc
 clear hb1 hb2 hcs
 dsimp only at hga hup hN hki hsame hgk hgl harm ⊢
 generalize Qbr mp st sd du p8 inw S.now=x at *
 obtain ⟨x1,x2,x3⟩:=x
 dsimp only at hup hN hsame
 refine Qg (An @hHi (An @h67 (An @hcl @c30))) ?_
 ((first|refine Qa3 Ko ?_|refine Ub Ko ?_);(have zf1:=@h68;have zf2:=@hks;have zf3:=@hki;have zf4:=@hga;have zf5:=@hHi;have zf6:=@h67;have zf7:=@hcl;have zf8:=@c33;refine XG ?_;clear zf1 zf2 zf3 zf4 zf5 zf6 zf7 zf8;((try (repeat' with_reducible refine And.intro ?_ ?_));(try any_goals (first|refine zm ?_|exact CL|fail)))))
 refine Qk7 (ex:=[(70,_),(67,_),(68,_),(69,_)]) hnow hT Zde Zsi (by exact Qq (An @hcl @c33)) (by simp[Qe]) ?_
 refine Qd ?_
 refine Xa hN @hTb ?_
 refine Qg (An @hcl (An @c30 @hTb)) ?_
 ((first|refine Qa3 Ko ?_|refine Ub Ko ?_);(have zf1:=@hks;have zf2:=@hki;have zf3:=@hga;have zf4:=@hcl;have zf5:=@c30;have zf6:=@hTb;refine XG ?_;clear zf1 zf2 zf3 zf4 zf5 zf6;((try (repeat' with_reducible refine And.intro ?_ ?_));(try any_goals (first|refine zm ?_|exact CL|fail)))))
 (refine Qa (fun h1=>?_) (fun h1=>?_)<;>try exact h1.elim)
 rotate_left
 ·exact absurd h1 (by simpa using hsame)
 refine Qg (An @hcl @c33) ?_
 refine Qki (v:=false) (ex:=[(138,_),(138,_),(70,_),(67,_),(68,_),(69,_)]) harm (WT.HLb hT) (WT.HLb hT') (by simp[Qe]) Zde Zde Zsi rfl ?_ ?_
 ·exact Qq (An @Xg (An @hcl @c33))
 rw[Qu9 (by simp[Qe])]
 refine Qg (An @hcl @c30) ?_
 ((first|refine Qja Ko ?_|refine Qh8 Ko ?_);(have zf1:=@hks;have zf2:=@hki;have zf3:=@hup;have zf4:=@hcl;have zf5:=@c30;refine XG ?_;clear zf1 zf2 zf3 zf4 zf5;((try (repeat' with_reducible refine And.intro ?_ ?_));(try any_goals (first|refine zm ?_|exact CL|fail)))))
 refine ⟨(),To.natW (p:=[67]) (n:=206) (σ:=mv1 139) (ex:=[(68,_),(138,_),(138,_),(70,_),(67,_),(68,_),(69,_)]) (k:=69) hT' Zsi (fun b b' h h' e=>Qot Zde h h' e) ?_ Zde ?_ ?_ rfl ?_ (by simp[Qw,Qe,nmAll,look,ren,rens])⟩
 ·intro q hq b hb e
  have h1:mv1 139 b < 2∨141≤mv1 139 b:=by unfold mv1;split<;>omega
  simp at hq
  rcases hq with rfl|rfl|rfl|rfl|rfl|rfl|rfl<;>dsimp only at e<;>omega
 ·intro b hb
  have h1:mv1 139 b < 2∨141≤mv1 139 b:=by unfold mv1;split<;>omega
  omega
 ·show Bk.cells _=_
  unfold NS.cells NS.tl NS.tlr
  rw[hgl]
  rfl
 ·show Bk.cells _=_
  rw[hgk]
section
variable {P:Program} {c:Cx}
theorem Xoc {anc:List Nat} {fs:List Foot} {r0:List TOp} {K:St→Prop} {s:St} {d:Nat} {t:TypeId} {ok:Bool} {xs:List TV} {gd:Option (Nat × Bool)} {wide:Bool} {ks:List SK} {z:AV} (hT:MapT P t wide ks z) (hb:gB s.fs gd=some true) (hok:gOk s.fs gd)
  (h:Qt none (evs c.gl s.fs xs)∧Qcc s.fs wide ks ((evs c.gl s.fs xs).map Qj)∧XD P c anc r0 (⟨gdT gd++Xj xs,[mpB ((evs c.gl s.fs xs).map Qj)],[d],[]⟩::fs) K (s.put d (Qon s.fs z ok ((evs c.gl s.fs xs).map Qj)))) :
  Za P c anc (.pd (some d) (.lkp t ok) xs gd) r0 fs K s:=⟨_,_,Qk5 hb hok (Qma hT h.1 h.2.1),h.2.2⟩
end
def ixB (b:Int→Bool):List Int→Nat→Int
 | [],_=>-1
 | x::l,k=>if b x=true then k else ixB b l (k + 1)
theorem Qzt {b:Int→Bool}:∀ (l:List Int) (k:Nat),decide (0≤ixB b l k)=l.any b
 | [],k=>by simp[ixB]
 | x::l,k=>by
  unfold ixB
  rw[List.any_cons]
  split
  ·rename_i h;rw[h];simp
  ·rename_i h;rw[Qzt l (k + 1)];simp[h]
section
variable {h:List (Nat × Bk)} {m kb:Nat} {l:List Int} {f:FuncId} {caps:List AV} {b:Int→Bool}
set_option maxHeartbeats 2000000 in
theorem Xwh (gl:Nat→AV) (H:HL h m) (hl:l.length≤1000000) (hkb:kb < m) (hk:∀ n,Qb h n kb=.cells (Qp l)) (hcaps:nmAll m caps)
  (hf:∀ x ∈ l,GD Tryz.prog gl f (.int .i64 x::caps) h m (List.range m) (.bool (b x)) h) :
  GD Tryz.prog gl 136 [.sl 1 kb 0 l.length l.length,.cl f caps] h m (List.range m) (.int .i64 (ixB b l 0)) h:=by
 refine Qkg.gq (of_decide_eq_true rfl) H.lives (fun b hb=>List.mem_range.1 hb) fun c hgh hg=>?_
 subst hg
 conv in tcO _ _=>cbv
 have htl:=Xw l
 refine Qd ?_
 refine Yj (fun k:Nat=>k≤l.length∧ixB b (l.drop k) k=ixB b l 0) (fun k=>⟨[(0,.sl 1 kb 0 l.length l.length),(1,.cl f caps),(6,.sl 1 kb 0 l.length l.length),(7,.int .i64 l.length),(8,.int .i64 k)],h,m⟩) (fun k=>l.length - k) Qkg.mixed (List.range m) hgh
  ⟨0,⟨by omega,rfl⟩,To.sel (by exact Qs) fun b=>rfl⟩ fun k hk2=>?_
 obtain ⟨hkl,hik⟩:=hk2
 have hpin:∀ b ∈ List.range m,b < m:=fun b hb=>List.mem_range.1 hb
 refine Qd ?_
 (refine Qa (fun h1=>?_) (fun h1=>?_)<;>try exact h1.elim)
 ·have hkn:k < l.length:=by omega
  have hgk:=Qcv l k hkn
  have hdr:l.drop k=l[k]::l.drop (k + 1):=List.drop_eq_getElem_cons hkn
  rw[hdr]at hik
  rw[ixB]at hik
  have hc:=hf l[k] (List.getElem_mem hkn)
  generalize l[k]=t at *
  refine Qg (An @htl (An @hgk @hk)) ?_
  refine Ws (v:=true) (ex:=[]) hc H H (by simp[Qe]) (Nat.le_refl m) Zsi rfl ?_ ?_
  ·refine Qd ?_
   exact rfl
  refine Qd ?_
  (refine Qa (fun h2=>?_) (fun h2=>?_)<;>try exact h2.elim)
  ·rw[if_pos h2]at hik
   refine Qd ?_
   refine ⟨(),?_⟩
   rw[← hik]
   exact To.drop (ex:=[]) H Zsi hpin (by simp[Qw,Qe,look,ren])
  ·rw[if_neg (by simpa using h2)]at hik
   refine Qd ?_
   refine ⟨k + 1,⟨by omega,hik⟩,To.drop (ex:=[]) H Zsi hpin ?_,by omega⟩
   simp[Qw,Qe,nmAll,look,ren,hcaps,hkb]
   exact (Kd caps).symm
 ·have:k=l.length:=by omega
  subst this
  rw[List.drop_length]at hik
  have hik:(-1:Int)=ixB b l 0:=hik
  refine Qd ?_
  refine ⟨(),?_⟩
  rw[← hik]
  exact To.drop (ex:=[]) H Zsi hpin (by simp[Qw,Qe,look,ren])
set_option maxHeartbeats 2000000 in
theorem Qyv (gl:Nat→AV) (H:HL h m) (hl:l.length≤1000000) (hkb:kb < m) (hk:∀ n,Qb h n kb=.cells (Qp l)) (hcaps:nmAll m caps)
  (hf:∀ x ∈ l,GD Tryz.prog gl f (.int .i64 x::caps) h m (List.range m) (.bool (b x)) h) :
  GD Tryz.prog gl 96 [.sl 1 kb 0 l.length l.length,.cl f caps] h m (List.range m) (.bool (l.any b)) h:=by
 refine Xwb.gq (of_decide_eq_true rfl) H.lives (fun b hb=>List.mem_range.1 hb) fun c hgh hg=>?_
 subst hg
 conv in tcO _ _=>cbv
 have hc:=Xwh c.gl H hl hkb hk hcaps hf
 have ha:=Qzt (b:=b) l 0
 refine Qd ?_
 refine Ws (v:=false) (ex:=[]) hc H H (by simp[Qe]) (Nat.le_refl m) Zsi rfl ⟨?_,?_,?_⟩ ?_
 ·exact Qs
 ·exact Qq @Xg
 ·simp[nmAll,Qe,hkb,hcaps]
 refine Qd ?_
 refine ⟨(),?_⟩
 rw[← ha]
 exact To.drop (ex:=[]) H Zsi (fun b hb=>List.mem_range.1 hb) (by simp[Qw,Qe,look,ren])
end
section
variable {h:List (Nat × Bk)} {mm nb mb pb:Nat} {S:NS} {m:Mp}
set_option maxHeartbeats 2000000 in
theorem Xhh (gl:Nat→AV) (hS:NB S) (H:HL h mm) (e67:∀ n,Qb h n 67=.cells S.cells) (e68:∀ n,Qb h n 68=.mapb (kvF S.fl) false) (enb:∀ n,Qb h n nb=.cells [.ptr 67 0]) (emb:∀ n,Qb h n mb=.cells m.enc) {q:Int × Fl} (hq:q ∈ S.fl) :
  GD Tryz.prog gl 101 [.int .i64 q.1,.ptr nb 0,.ptr mb 0] h mm (List.range mm) (.bool (decide (q.2.map=m))) h:=by
 refine Xi9.gq (of_decide_eq_true rfl) H.lives (fun b hb=>List.mem_range.1 hb) fun c hgh hg=>?_
 subst hg
 conv in tcO _ _=>cbv
 have hga:=Qi9 hS.dis hq (.agg Fl.zero)
 have hki:=Uo q.1
 have hks:=Qce S.fl
 have hcl:=NS.cells_len hS.wf
 have c30:=NS.c30 hS.wf
 obtain ⟨k,f⟩:=q
 obtain ⟨⟨p0,p1,p2,p3,p4⟩,g0,g1,g2,g3,g4⟩:=f
 obtain ⟨mp,ms,mi,ma,mt⟩:=m
 have heq:=@Qnc c false ⟨p0,p1,p2,p3,p4⟩ ⟨mp,ms,mi,ma,mt⟩
 unfold Mp.enc at heq emb
 unfold Fl.enc Kw at hga
 dsimp only at hga heq emb hki ⊢
 refine Qg (An @enb (An @e67 (An @hcl @c30))) ?_
 ((first|refine Qa3 Ko ?_|refine Ub Ko ?_);(have zf1:=@e68;have zf2:=@hks;have zf3:=@hki;have zf4:=@hga;have zf5:=@emb;refine XG ?_;clear zf1 zf2 zf3 zf4 zf5;((try (repeat' with_reducible refine And.intro ?_ ?_));(try any_goals (first|refine zm ?_|exact CL|fail)))))
 ((first|apply Yq|apply Ya|apply Xs|apply Xm)<;>(first|exact heq|(refine XG ?_;first|exact rfl|exact True.intro|((try (repeat' with_reducible refine And.intro ?_ ?_));(try any_goals (first|refine zm ?_|exact CL|fail))))))
 refine Qd ?_
 ·simp[Ue,Wo,clash];decide
 exact ⟨(),To.drop (ex:=[]) H Zsi (fun b hb=>List.mem_range.1 hb) (by simp[Qw,Qe,look,ren])⟩
set_option maxHeartbeats 2000000 in
theorem Xv3 (gl:Nat→AV) (hS:NJ S) (H:HL h mm) (e67:∀ n,Qb h n 67=.cells S.cells) (e68:∀ n,Qb h n 68=.mapb (kvF S.fl) false) (enb:∀ n,Qb h n nb=.cells [.ptr 67 0]) (emb:∀ n,Qb h n mb=.cells m.enc) {p:Pk} (epb:∀ n,Qb h n pb=.cells p.enc) {q:Int × Fl} (hq:q ∈ S.fl) :
  GD Tryz.prog gl 97 [.int .i64 q.1,.ptr nb 0,.ptr mb 0,.ptr pb 0] h mm (List.range mm) (.bool (decide (q.2.map=m) && q.2.rem == p.frm)) h:=by
 refine Xuz.gq (of_decide_eq_true rfl) H.lives (fun b hb=>List.mem_range.1 hb) fun c hgh hg=>?_
 subst hg
 conv in tcO _ _=>cbv
 have hga:=Qi9 hS.dis hq (.agg Fl.zero)
 have hki:=Uo q.1
 have hks:=Qce S.fl
 have hcl:=NS.cells_len hS.wf
 have c30:=NS.c30 hS.wf
 obtain ⟨k,f⟩:=q
 obtain ⟨⟨p0,p1,p2,p3,p4⟩,g0,g1,g2,g3,g4⟩:=f
 obtain ⟨mp,ms,mi,ma,mt⟩:=m
 obtain ⟨x1,x2,x3,x4,x5,x6,x7,x8,x9,x10,x11,xb⟩:=p
 have heq:=@Qnc c false ⟨p0,p1,p2,p3,p4⟩ ⟨mp,ms,mi,ma,mt⟩
 unfold Mp.enc at heq emb
 unfold Pk.enc at epb
 unfold Fl.enc Kw at hga
 dsimp only at hga heq emb epb hki ⊢
 refine Qg (An @enb (An @e67 (An @hcl @c30))) ?_
 ((first|refine Qa3 Ko ?_|refine Ub Ko ?_);(have zf1:=@e68;have zf2:=@hks;have zf3:=@hki;have zf4:=@hga;have zf5:=@emb;refine XG ?_;clear zf1 zf2 zf3 zf4 zf5;((try (repeat' with_reducible refine And.intro ?_ ?_));(try any_goals (first|refine zm ?_|exact CL|fail)))))
 by_cases hm:(⟨p0,p1,p2,p3,p4⟩:Mp)=⟨mp,ms,mi,ma,mt⟩
 ·rw[decide_eq_true hm]at heq ⊢
  refine Xa heq (An @enb (An @e67 (An @hcl (An @c30 @epb)))) ?_
  refine Xoc Ko ?_ ?_ ?_
  ·exact Qs
  ·exact Qs
  (have zf1:=@e68;have zf2:=@hks;have zf3:=@hki;have zf4:=@hga;have zf5:=@emb;have zf6:=@epb;refine XG ?_;clear zf1 zf2 zf3 zf4 zf5 zf6;((try (repeat' with_reducible refine And.intro ?_ ?_));(try any_goals (first|refine zm ?_|exact CL|fail))))
  ·simp[Ue,Wo,clash];decide
  exact ⟨(),To.drop (ex:=[]) H Zsi (fun b hb=>List.mem_range.1 hb) (by simp[Qw,Qe,look,ren])⟩
 ·rw[decide_eq_false hm]at heq ⊢
  refine Xa heq (An @enb (An @e67 (An @hcl (An @c30 @epb)))) ?_
  ((first|apply Yd|apply Xu)<;>(have zf1:=@enb;have zf2:=@e67;have zf3:=@hcl;have zf4:=@c30;have zf5:=@epb;refine XG ?_;clear zf1 zf2 zf3 zf4 zf5;first|exact rfl|exact True.intro|((try (repeat' with_reducible refine And.intro ?_ ?_));(try any_goals (first|refine zm ?_|exact CL|fail)))))
  ·simp[Ue,Wo,clash];decide
  exact ⟨(),To.drop (ex:=[]) H Zsi (fun b hb=>List.mem_range.1 hb) (by simp[Qw,Qe,look,ren])⟩
end
structure NK (S:NS):Prop extends NI S where
 nx:S.nxt≤2 * S.acts
 tld:S.told≤64 * S.acts
 act:S.acts≤300
theorem NI.ids0 {S:NS} (h:NJ S):∀ q ∈ S.fl,1≤q.1:=fun q hq=>(h.ids q hq).1
theorem NI.setRef {S:NS} (h:NI S) {r:Nat} (hr:r≤4):NI { S with ref:=r } :=
 ⟨⟨h.gt,h.wf,h.ids,h.dis,h.len,h.inm,h.has,h.uni,h.now,h.nx0,hr⟩,h.due⟩
theorem NI.setTold {S:NS} (h:NI S) (r:Nat):NI { S with told:=r } :=
 ⟨⟨h.gt,h.wf,h.ids,h.dis,h.len,h.inm,h.has,h.uni,h.now,h.nx0,h.ref⟩,h.due⟩
theorem NI.setActs {S:NS} (h:NI S) (r:Nat):NI { S with acts:=r } :=
 ⟨⟨h.gt,h.wf,h.ids,h.dis,h.len,h.inm,h.has,h.uni,h.now,h.nx0,h.ref⟩,h.due⟩
structure Cnt (S S':NS) (a b:Nat):Prop where
 nx:S'.nxt≤S.nxt + a
 tld:S'.told≤S.told + b
 act:S'.acts=S.acts
 loose:S'.loose=S.loose
theorem Cnt.refl (S:NS) (a b:Nat):Cnt S S a b:=⟨by omega,by omega,rfl,rfl⟩
theorem NI.refuse {S:NS} (h:NI S) (f:List UInt8) (e:Int):NI (S.refuse f e).2∧Cnt S (S.refuse f e).2 0 0:=by
 unfold NS.refuse
 split
 ·exact ⟨h,Cnt.refl ..⟩
 ·exact ⟨h.setRef (by have:=h.ref;omega),⟨by show S.nxt≤_;omega,Nat.le_refl _,rfl,rfl⟩⟩
theorem NI.begin0 {S:NS} (h:NI S) {f:Fl} (hin:f.map ∈ S.tb.maps) (hno:∀ q ∈ S.fl,¬ (q.2.map=f.map∧q.2.rem=f.rem∧q.2.rport=f.rport)) (hl:S.fl.length < 48):NI (S.begin f) :=
 h.begin h.gt h.wf (fun _ hm=>hm) (fun _ hm=>.inl hm) hin hno hl
theorem NI.inn {S:NS} (h:NI S) (f:List UInt8):NI (S.inn f).2∧Cnt S (S.inn f).2 1 0:=by
 have hS:NI S∧Cnt S S 1 0:=⟨h,Cnt.refl ..⟩
 unfold NS.inn
 split
 ·exact hS
 dsimp only
 split
 ·exact hS
 split
 ·exact hS
 split
 ·exact hS
 split
 ·exact hS
 rename_i m hm
 have hmm:=List.mem_of_find?_eq_some hm
 split
 ·exact ⟨h.goes ..,⟨by show S.nxt≤_;omega,Nat.le_refl _,rfl,rfl⟩⟩
 rename_i hk
 split
 ·exact hS
 split
 ·exact hS
 rename_i hlen
 refine ⟨h.begin0 hmm (Qzw (NI.ids0 h.toNJ) (Decidable.not_not.1 hk)) Zom,⟨?_,Nat.le_refl _,rfl,rfl⟩⟩
 show S.nxt + 1≤_
 omega
theorem NI.sent {S:NS} (h:NI S) (f:List UInt8) (m:Mp) (es:List Ev):NI (S.sent f m es).2∧Cnt S (S.sent f m es).2 1 es.length:=by
 have h1:NI (S.log es):=h.setTold _
 unfold NS.sent
 dsimp only
 split
 ·obtain ⟨g1,g2⟩:=h1.inn (Kq f 0 (3405803777 + m.a) m.port)
  exact ⟨g1,⟨g2.nx,g2.tld,g2.act,g2.loose⟩⟩
 ·exact ⟨h1,⟨by show S.nxt≤_;omega,Nat.le_refl _,rfl,rfl⟩⟩
theorem Xgw {p:Pk} (hp:p.proto=1∨p.proto=6∨p.proto=17) {s i:Int} (h1:0≤s) (h2:s < 8) (h3:0≤i) (h4:i≤65535):Zy p.proto s i=true:=by
 unfold Zy
 simp only[Bool.and_eq_true,Bool.or_eq_true,beq_iff_eq,decide_eq_true_eq]
 omega
theorem Qyh {S:NS} (hn:S.now≤549755813888) {t:Tb} (h:GT t) {m:Mp} (hm:m ∈ t.maps) (b:Bool):Wv (S.ev m b).t (S.ev m b).s (S.ev m b).a (S.ev m b).b=true:=by
 have hok:=h.maps m hm
 obtain ⟨_,⟨h3,h4⟩,_⟩:=Kx hok.1.1
 have h5:=hok.1.2.2
 have h6:=Qh4 m.port
 show Wv S.now m.s m.a (Xr m.port)=true
 unfold Wv
 simp only[Bool.and_eq_true,decide_eq_true_eq]
 omega
theorem NI.begin1 {S:NS} (h:NI S) {p:Pk} {S0:Nat} {inn:Int} (hkn:Zy p.proto S0 inn=true) {x:Tb × Mp × Bool × Int} (ho:Opened S.tb p.proto S0 inn x) (he:x.2.2.2=0)
  (hno:∀ q ∈ S.fl,¬ (q.2.map=x.2.1∧q.2.rem=p.dst∧q.2.rport=p.dport)) (hl:S.fl.length < 48) (st:Int):NI (({ S with tb:=x.1 }:NS).begin ⟨x.2.1,p.dst,p.dport,st,0,0⟩):=by
 have hg:=ho.good h.gt h.wf hkn
 have hw:=ho.wf h.wf
 have hin:=(ho.has he).1
 refine h.begin hg hw ?_ ?_ hin hno hl
 ·cases ho with
  | no e he'=>exact fun m hm=>hm
  | old m hf=>exact fun m hm=>hm
  | own port=>exact fun m hm=>List.mem_append_left _ hm
  | new b k=>exact fun m hm=>List.mem_append_left _ hm
 ·cases ho with
  | no e he'=>exact fun m hm=>.inl hm
  | old m hf=>exact fun m hm=>.inl hm
  | own port=>exact fun m hm=>(List.mem_append.1 hm).imp id fun h=>List.mem_singleton.1 h
  | new b k=>exact fun m hm=>(List.mem_append.1 hm).imp id fun h=>List.mem_singleton.1 h
theorem Qpm {f:List UInt8} (h:rdE f=0):((rdK f).proto=1∨(rdK f).proto=6∨(rdK f).proto=17)∧Kc (rdK f):=by
 have he:Yw (rdK f)=0:=by
  unfold rdE at h
  dsimp only at h
  (repeat' split at h)<;>first|cases h|exact h
 have:=Qck he
 exact ⟨this.1,this.2.1⟩
def NS.fwd (S:NS) (p:Pk):Option Mp:=S.tb.maps.find? (Zj p.proto (p.frm - 167772161) p.sport)
def NS.kOut (S:NS) (p:Pk):Int:=match S.fwd p with
 | some m=>S.findF m p.dst p.dport
 | none=>0
noncomputable def NS.opened (S:NS) (f:List UInt8) (o:Tb × Mp × Bool × Int):Rp × NS :=
 (({ S with tb:=o.1 }:NS).begin ⟨o.2.1,(rdK f).dst,(rdK f).dport,Qc4 (rdK f).proto,0,0⟩).sent f o.2.1 (if o.2.2.1 then [({ S with tb:=o.1 }:NS).ev o.2.1 false] else [])
theorem Qne (S:NS) (f:List UInt8) (draw:Int):S.out f draw =
  if rdE f≠0 then (rpE (rdE f),S) else
  if (rdK f).frm - 167772161 < 0∨8≤(rdK f).frm - 167772161 then (rpE 7,S) else
  if (rdK f).proto=1∧(rdK f).flags≠8 then (rpE 4,S) else
  if (rdK f).ttl=1 then (rpE 12,S) else
  if S.kOut (rdK f)≠0 then (match S.fwd (rdK f) with
   | some m=>(S.goes (S.kOut (rdK f)) (rdK f) false).sent f m []
   | none=>(rpE 0,S))
  else if Qfc (rdK f).proto (rdK f).flags=false then (rpE 11,S) else
  if 48≤S.fl.length then S.refuse f 6 else
  if (S.tb.opn (rdK f).proto ((rdK f).frm - 167772161) (rdK f).sport draw).2.2.2≠0 then S.refuse f (S.tb.opn (rdK f).proto ((rdK f).frm - 167772161) (rdK f).sport draw).2.2.2 else
  S.opened f (S.tb.opn (rdK f).proto ((rdK f).frm - 167772161) (rdK f).sport draw):=rfl
theorem NI.opened {S:NS} (h:NI S) {f:List UInt8} (he:rdE f=0) {draw:Int} (hs:¬ ((rdK f).frm - 167772161 < 0∨8≤(rdK f).frm - 167772161)) (hk:S.kOut (rdK f)=0) (hl:S.fl.length < 48) (ho:(S.tb.opn (rdK f).proto ((rdK f).frm - 167772161) (rdK f).sport draw).2.2.2=0) :
  ∃ S0:Nat,(rdK f).frm - 167772161=S0∧S0 < 8∧Zy (rdK f).proto S0 (rdK f).sport=true∧Opened S.tb (rdK f).proto S0 (rdK f).sport (S.tb.opn (rdK f).proto S0 (rdK f).sport draw)∧(∀ q ∈ S.fl,¬ (q.2.map=(S.tb.opn (rdK f).proto S0 (rdK f).sport draw).2.1∧q.2.rem=(rdK f).dst∧q.2.rport=(rdK f).dport)) ∧
  ∀ st,NI (({ S with tb:=(S.tb.opn (rdK f).proto S0 (rdK f).sport draw).1 }:NS).begin ⟨(S.tb.opn (rdK f).proto S0 (rdK f).sport draw).2.1,(rdK f).dst,(rdK f).dport,st,0,0⟩):=by
 obtain ⟨hp,hr⟩:=Qpm he
 obtain ⟨S0,hS0⟩:∃ S0:Nat,(rdK f).frm - 167772161=S0:=⟨((rdK f).frm - 167772161).toNat,by omega⟩
 unfold NS.kOut NS.fwd at hk
 rw[hS0]at ho hk hs
 have hkn:Zy (rdK f).proto S0 (rdK f).sport=true:=Xgw hp Zom Zom hr.2.2.2.2.1.1 hr.2.2.2.2.1.2
 have hop:=Proofs.YtogckmommodmhaaGreatDoor.opened h.gt h.wf hkn draw
 have hno:∀ q ∈ S.fl,¬ (q.2.map=(S.tb.opn (rdK f).proto S0 (rdK f).sport draw).2.1∧q.2.rem=(rdK f).dst∧q.2.rport=(rdK f).dport):=by
  intro q hq ⟨e1,e2,e3⟩
  have hin:=h.inm q hq
  have hfw:=h.gt.fwd hin
  obtain ⟨_,k1,k2,k3,_⟩:=hop.has ho
  rw[e1]at hin hfw
  rw[k1,k2,k3]at hfw
  rw[hfw]at hk
  exact Qzw (NI.ids0 h.toNJ) hk q hq ⟨e1,e2,e3⟩
 exact ⟨S0,hS0,by omega,hkn,hop,hno,fun st=>h.begin1 hkn hop ho hno hl st⟩
theorem NI.out {S:NS} (h:NI S) (f:List UInt8) (draw:Int):NI (S.out f draw).2∧Cnt S (S.out f draw).2 2 1:=by
 have hS:∀ r,NI ((r,S):Rp × NS).2∧Cnt S ((r,S):Rp × NS).2 2 1:=fun r=>⟨h,Cnt.refl ..⟩
 have hR:∀ e,NI (S.refuse f e).2∧Cnt S (S.refuse f e).2 2 1:=fun e=>by
  obtain ⟨g1,g2⟩:=h.refuse f e
  exact ⟨g1,⟨by have:=g2.nx;omega,by have:=g2.tld;omega,g2.act,g2.loose⟩⟩
 rw[Qne]
 by_cases he:rdE f=0
 case neg=>rw[if_pos he];exact hS _
 rw[if_neg (by simpa using he)]
 by_cases hs:(rdK f).frm - 167772161 < 0∨8≤(rdK f).frm - 167772161
 ·rw[if_pos hs];exact hS _
 rw[if_neg hs]
 by_cases h2:(rdK f).proto=1∧(rdK f).flags≠8
 ·rw[if_pos h2];exact hS _
 rw[if_neg h2]
 by_cases h3:(rdK f).ttl=1
 ·rw[if_pos h3];exact hS _
 rw[if_neg h3]
 by_cases hk:S.kOut (rdK f)=0
 case neg =>
  rw[if_pos hk]
  cases S.fwd (rdK f) with
  | none=>exact hS _
  | some m =>
   obtain ⟨g1,g2⟩:=(h.goes (S.kOut (rdK f)) (rdK f) false).sent f m []
   dsimp only
   refine ⟨g1,⟨?_,?_,g2.act,g2.loose⟩⟩
   ·have h3:_≤S.nxt + 1:=g2.nx
    omega
   ·have h3:_≤S.told + 0:=g2.tld
    omega
 rw[if_neg (by simpa using hk)]
 by_cases h4:Qfc (rdK f).proto (rdK f).flags=false
 ·rw[if_pos h4];exact hS _
 rw[if_neg h4]
 by_cases hl:48≤S.fl.length
 ·rw[if_pos hl];exact hR _
 rw[if_neg hl]
 by_cases ho:(S.tb.opn (rdK f).proto ((rdK f).frm - 167772161) (rdK f).sport draw).2.2.2=0
 case neg=>rw[if_pos ho];exact hR _
 rw[if_neg (by simpa using ho)]
 obtain ⟨S0,hS0,_,hkn,hop,hno,hb⟩:=h.opened he hs hk Zom ho
 rw[hS0]
 unfold NS.opened
 have hb:=hb (Qc4 (rdK f).proto)
 generalize S.tb.opn (rdK f).proto S0 (rdK f).sport draw=o at *
 obtain ⟨g1,g2⟩:=hb.sent f o.2.1 (if o.2.2.1 then [({ S with tb:=o.1 }:NS).ev o.2.1 false] else [])
 have hlen:(if o.2.2.1=true then [({ S with tb:=o.1 }:NS).ev o.2.1 false] else []).length≤1:=by split<;>simp
 refine ⟨g1,⟨?_,?_,g2.act,g2.loose⟩⟩
 ·have h2:=g2.nx
  have h3:_≤S.nxt + 1 + 1:=h2
  omega
 ·have h2:=g2.tld
  have h3:_≤S.told + _:=h2
  omega
theorem Xuo (x:NS × List Ev) (k:Int):∃ tb es,endF x k=({ x.1 with fl:=x.1.fl.filter fun r=>!(r.1 == k),tb:=tb },x.2++es)∧es.length≤1∧(NJ x.1→∀ e ∈ es,e.t=x.1.now∧Wv e.t e.s e.a e.b=true):=by
 obtain ⟨S,l⟩:=x
 unfold endF
 dsimp only
 cases hf:S.fl.find? (fun q=>q.1 == k) with
 | none =>
  have:(S.fl.filter fun r=>!(r.1 == k))=S.fl:=List.filter_eq_self.2 fun q hq=>by have:=List.find?_eq_none.1 hf q hq;simpa using this
  rw[this]
  exact ⟨S.tb,[],by simp,by simp,by simp⟩
 | some q =>
  dsimp only
  split
  ·exact ⟨S.tb,[],by simp,by simp,by simp⟩
  ·refine ⟨(S.tb.cls q.2.map).1,if (S.tb.cls q.2.map).2.1 then [({ S with fl:=S.fl.filter fun r=>!(r.1 == k) }:NS).ev q.2.map true] else [],?_,by split<;>simp,fun h e he=>?_⟩
   ·split<;>simp
   ·split at he
    ·obtain rfl:=List.mem_singleton.1 he
     exact ⟨rfl,Qyh (S:={ S with fl:=S.fl.filter fun r=>!(r.1 == k) }) h.now h.gt (h.inm q (List.mem_of_find?_eq_some hf)) true⟩
    ·cases he
structure EndsT (S S':NS) (K:List Int) (es:List Ev):Prop where
 nj:NJ S'
 fl:S'.fl=S.fl.filter fun q=>!(K.contains q.1)
 now:S'.now=S.now
 nx:S'.nxt=S.nxt
 told:S'.told=S.told
 ref:S'.ref=S.ref
 acts:S'.acts=S.acts
 loose:S'.loose=S.loose
 len:es.length≤K.length
 good:∀ e ∈ es,e.t=S.now∧Wv e.t e.s e.a e.b=true
theorem Qqb {S:NS} (h:NJ S):∀ K:List Int,∃ es,(K.foldl endF (S,[])).2=es∧EndsT S (K.foldl endF (S,[])).1 K es:=by
 have key:∀ (K K0:List Int) (x:NS × List Ev),EndsT S x.1 K0 x.2→EndsT S (K.foldl endF x).1 (K0++K) (K.foldl endF x).2:=by
  intro K
  induction K with
  | nil=>intro K0 x hx;rw[List.append_nil];exact hx
  | cons k K ih =>
   intro K0 x hx
   have:=ih (K0++[k]) (endF x k) ?_
   ·rw[List.append_assoc]at this;exact this
   ·obtain ⟨tb,es,e,hl,hg⟩:=Xuo x k
    have hnj:=hx.nj.endF k
    rw[e]at hnj ⊢
    refine ⟨hnj,?_,hx.now,hx.nx,hx.told,hx.ref,hx.acts,hx.loose,?_,?_⟩
    ·show x.1.fl.filter _=_
     rw[hx.fl,List.filter_filter]
     refine List.filter_congr fun q _=>?_
     rw[List.contains_eq_mem,List.contains_eq_mem]
     by_cases e1:q.1=k<;>by_cases e2:q.1 ∈ K0<;>simp[e1,e2]<;>simp[← e1,e2]
    ·have:=hx.len
     simp;omega
    ·intro e' he'
     rcases List.mem_append.1 he' with he'|he'
     ·exact hx.good e' he'
     ·have:=hg hx.nj e' he'
      rw[hx.now]at this
      exact this
 intro K
 refine ⟨_,rfl,?_⟩
 have:=key K [] (S,[]) ⟨h,(List.filter_eq_self.2 fun q _=>rfl).symm,rfl,rfl,rfl,rfl,rfl,rfl,by simp,by simp⟩
 rw[List.nil_append]at this
 exact this
theorem Qi3 {D:List Tm} {n:Nat} {k:Int}:k ∈ outT D n ↔ ∃ t ∈ D,t.due < n∧t.id=k:=by
 unfold outT
 rw[List.mem_map]
 constructor
 ·rintro ⟨t,ht,rfl⟩
  have:=(Ky _).mem_iff.1 ht
  rw[List.mem_filter]at this
  exact ⟨t,this.1,by simpa using this.2,rfl⟩
 ·rintro ⟨t,ht,hd,rfl⟩
  exact ⟨t,(Ky _).mem_iff.2 (List.mem_filter.2 ⟨ht,by simpa using hd⟩),rfl⟩
theorem Qyq (D:List Tm) (n:Nat):(outT D n).length≤D.length:=by
 unfold outT
 rw[List.length_map,(Ky _).length_eq]
 exact List.length_filter_le _ _
def NS.later (S:NS) (d:Int):NS:={ S with now:=S.now + d.toNat,ref:=min 4 (S.ref + min d.toNat 4) }
theorem NI.later {S:NS} (h:NI S) {d:Int} (hd:¬ (d < 1∨549755813888 - S.now < d)):NJ (S.later d) :=
 ⟨h.gt,h.wf,h.ids,h.dis,h.len,h.inm,h.has,h.uni,by show S.now + d.toNat≤549755813888;omega,h.nx0,by show min 4 _≤4;omega⟩
def NS.ended (S:NS) (d:Int):List Int:=outT S.tms (S.now + d.toNat + 1)
theorem NI.tick1 {S:NS} (h:NI S) {d:Int} (hd:¬ (d < 1∨549755813888 - S.now < d)):∃ es,((S.ended d).foldl endF (S.later d,[])).2=es∧EndsT (S.later d) ((S.ended d).foldl endF (S.later d,[])).1 (S.ended d) es∧NI ((S.ended d).foldl endF (S.later d,[])).1∧es.length≤48:=by
 obtain ⟨es,e,hE⟩:=Qqb (h.later hd) (S.ended d)
 refine ⟨es,e,hE,⟨hE.nj,fun q hq=>?_⟩,?_⟩
 ·rw[hE.fl]at hq
  obtain ⟨hq1,hq2⟩:=List.mem_filter.1 hq
  have hdue:=h.due q hq1
  rw[hE.now]
  have hn:(S.later d).now=S.now + d.toNat:=rfl
  rw[hn]
  have hnot:q.1 ∉ S.ended d:=fun hm=>by
   rw[List.contains_iff_mem.2 hm]at hq2;cases hq2
  have:¬ q.2.due.toNat < S.now + d.toNat + 1:=fun hlt=>hnot (Qi3.2 ⟨⟨q.1,q.2.due.toNat⟩,List.mem_map.2 ⟨q,hq1,rfl⟩,hlt,rfl⟩)
  omega
 ·refine Nat.le_trans hE.len (Nat.le_trans (Qyq _ _) ?_)
  unfold NS.tms
  rw[List.length_map];exact h.len
theorem Qke (S:NS) (d:Int):S.tick d=if d < 1∨549755813888 - S.now < d then (rpE 2,S) else (⟨0,[],false,Qff S.told ((S.ended d).foldl endF (S.later d,[])).2⟩,(((S.ended d).foldl endF (S.later d,[])).1.log ((S.ended d).foldl endF (S.later d,[])).2)):=rfl
theorem NI.tick {S:NS} (h:NI S) (d:Int):NI (S.tick d).2∧Cnt S (S.tick d).2 0 48:=by
 rw[Qke]
 split
 ·exact ⟨h,Cnt.refl ..⟩
 ·rename_i hd
  obtain ⟨es,e,hE,hN,hl⟩:=h.tick1 hd
  rw[e]
  refine ⟨hN.setTold _,⟨?_,?_,hE.acts,hE.loose⟩⟩
  ·show NS.nxt (List.foldl endF (S.later d,[]) (S.ended d)).1≤_
   rw[hE.nx];show S.nxt≤_;omega
  ·show NS.told (List.foldl endF (S.later d,[]) (S.ended d)).1 + es.length≤_
   rw[hE.told];show S.told + _≤_;omega
theorem NI.setPool {S:NS} (h:NI S) (a:Int) (to:Bool):NI { S with tb:={ S.tb with pool:=(S.tb.pool.drain a to).1 } } :=
 ⟨⟨h.gt.drain a to,⟨Pool.drain_wf _ h.wf.pool a to,h.wf.home⟩,h.ids,h.dis,h.len,h.inm,h.has,h.uni,h.now,h.nx0,h.ref⟩,h.due⟩
theorem NK.of {S S':NS} (h:NK S) (ha:S.acts < 300) (hn:NI S') (hc:Cnt { S with acts:=S.acts + 1 } S' 2 64):NK S' :=
 ⟨hn,by have h1:=hc.nx;have h2:=hc.act;have h3:=h.nx;have h1:S'.nxt≤S.nxt + 2:=h1;rw[h2];show S'.nxt≤2 * ((S.acts + 1:Nat):Int);omega,
  by have h1:=hc.tld;have h2:=hc.act;have h3:=h.tld;have h1:S'.told≤S.told + 64:=h1;rw[h2];show S'.told≤64 * (S.acts + 1);omega,
  by rw[hc.act];exact ha⟩
theorem Cnt.up {S S':NS} {a b a' b':Nat} (h:Cnt S S' a b) (h1:a≤a') (h2:b≤b'):Cnt S S' a' b':=⟨by have:=h.nx;omega,by have:=h.tld;omega,h.act,h.loose⟩
theorem NK.step {S:NS} (h:NK S) (a:Ac):NK (S.step a).2:=by
 unfold NS.step
 split
 ·exact h
 rename_i ha
 have ha:S.acts < 300:=by omega
 have h1:=h.toNI.setActs (S.acts + 1)
 dsimp only
 split
 ·exact h.of ha (h1.out a.frame a.draw).1 ((h1.out a.frame a.draw).2.up Zde Zde)
 split
 ·exact h.of ha (h1.inn a.frame).1 ((h1.inn a.frame).2.up Zde Zde)
 split
 ·exact h.of ha (h1.tick a.n).1 ((h1.tick a.n).2.up Zde Zde)
 split
 ·split
  ·exact h.of ha (h1.setPool a.n _) ⟨by show S.nxt≤S.nxt + (2:Nat);omega,by show S.told≤S.told + 64;omega,rfl,rfl⟩
  ·exact h.of ha h1 (Cnt.refl ..)
 ·exact h.of ha h1 (Cnt.refl ..)
theorem NK.new (b:Bool):NK (NS.new b):=by
 refine ⟨⟨⟨Xzg,Xxo,by simp[NS.new],by simp[NS.new],by simp[NS.new],by simp[NS.new],by simp[NS.new],by simp[NS.new],by simp[NS.new],by simp[NS.new],by simp[NS.new]⟩,by simp[NS.new]⟩,by simp[NS.new],by simp[NS.new],by simp[NS.new]⟩
theorem Xzu (gl:Nat→AV) (c m n:Int):PS Tryz.prog gl 166 [.int .i64 c,.int .i64 m,.int .i64 n] (.int .i64 (Qjx c m n)):=Xie gl c m n
theorem Qlm (l:List UInt8) (k:Nat) (n:Int):(Qao l k n).length=l.length:=by simp[Qao]
theorem Jf (l:List UInt8) (k:Nat) (m n:Int):(Uy l k m n).length=l.length:=by simp[Uy,Qlm]
theorem Qo (l:List UInt8) (k c:Nat) (n:Int):(Qk l k c n).length=l.length:=by simp[Qk,Qlm,Jf]
theorem Qp6 (s:FS):rvs s []=.tup []:=rfl
theorem Qf4 (k:Nat):((k:Int) + 1).toNat=k + 1:=by omega
theorem Qfa (k:Nat):((k:Int) + 2).toNat=k + 2:=by omega
theorem Qqe (k:Nat):k + 2 - k=2:=by omega
set_option maxHeartbeats 1000000 in
theorem Xx (gl:Nat→AV) (l:List UInt8) (last:Bool) (ck:Nat) (m n:Int) (hc:ck + 2≤l.length) (hl:l.length≤65535) :
  GS Tryz.prog gl 134 [.ptr 0 0,.int .i64 ck,.int .i64 m,.int .i64 n] [(0,.cells [.sl 1 1 0 l.length l.length,.bool last]),(1,.cells (Xk l))] 2 (.tup [])
   [(0,.cells [.sl 1 1 0 l.length l.length,.bool last]),(1,.cells (Xk (Uy l ck m n)))] 2:=by
 refine Xos.gs (of_decide_eq_true rfl) (by simp[Bk.live]) fun c hgh hg=>?_
 conv in tcO _ _=>cbv
 have hb:=Xvn (w2 l ck) m n
 have hfin:Uy l ck m n=(l.set ck (Qf (Qjx (w2 l ck) m n) 1)).set (ck + 1) (Qf (Qjx (w2 l ck) m n) 0):=rfl
 have hn:=nw2 c.gl l ck
 have hu:=Xzu c.gl (w2 l ck) m n
 rw[hfin]
 generalize Qjx (w2 l ck) m n=x at *
 generalize w2 l ck=y at *
 clear hfin
 refine Qg (An @Qf4 (An @Qfa @Qqe)) ?_
 refine Xa hn (An @Qf4 @Qfa) ?_
 refine Xa hu (An @Qf4 @Qfa) ?_
 refine ⟨[],?_⟩
 exact Qq (An @Qp6 @Qei)
theorem Xud (l:List UInt8) (k c:Nat) (n:Int):Qk l k c n=((Uy l c (w2 l k) n).set k (Qf n 1)).set (k + 1) (Qf n 0):=rfl
set_option maxHeartbeats 1000000 in
theorem Xc (gl:Nat→AV) (l:List UInt8) (last:Bool) (k ck:Nat) (n:Int) (hk:k + 2≤l.length) (hc:ck + 2≤l.length) (hl:l.length≤65535) :
  GS Tryz.prog gl 133 [.ptr 0 0,.int .i64 k,.int .i64 ck,.int .i64 n] [(0,.cells [.sl 1 1 0 l.length l.length,.bool last]),(1,.cells (Xk l))] 2 (.tup [])
   [(0,.cells [.sl 1 1 0 l.length l.length,.bool last]),(1,.cells (Xk (Qk l k ck n)))] 2:=by
 refine Xux.gs (of_decide_eq_true rfl) (by simp[Bk.live]) fun c hgh hg=>?_
 conv in tcO _ _=>cbv
 have hn:=nw2 c.gl l k
 have ht:=Xx c.gl l last ck (w2 l k) n hc hl
 rw[Xud]
 have htl:=Jf l ck (w2 l k) n
 generalize Uy l ck (w2 l k) n=T at *
 generalize w2 l k=y at *
 refine Qg (An @Qf4 (An @Qfa @Qqe)) ?_
 refine Xa hn (An @Qf4 @Qfa) ?_
 ((first|refine Qy (ins:=[0,1]) ht ?_ ?_|refine Qv (ins:=[0,1]) ht ?_ ?_|refine Qu (ins:=[0,1]) ht ?_ ?_|refine Qr (ins:=[0,1]) ht ?_ ?_)<;>(have zf1:=@Qf4;have zf2:=@Qfa;have zf3:=@htl;have zf4:=@Qp6;refine XG ?_;clear zf1 zf2 zf3 zf4;(try first|exact rfl|exact True.intro);((try (repeat' with_reducible refine And.intro ?_ ?_));(try any_goals (first|refine zm ?_|exact CL|fail)))))
 ·rfl
 refine ⟨[],?_⟩
 exact Qq (An @Qp6 @Qei)
end Go.Proofs.YtogckmommodmhaaGreatDoor
