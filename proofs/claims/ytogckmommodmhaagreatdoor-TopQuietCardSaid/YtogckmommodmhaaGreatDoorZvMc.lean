import Derived.Test.YtogckmommodmhaaGreatDoorZv11
import Derived.Test.YtogckmommodmhaaGreatDoorZv17
import Derived.Test.YtogckmommodmhaaGreatDoorZv18
import Derived.Test.YtogckmommodmhaaGreatDoorZvMa
namespace Go.Proofs.YtogckmommodmhaaGreatDoor
open Go.RowKit
set_option linter.all false
set_option linter.unusedSimpArgs false
set_option maxRecDepth 100000
theorem Xpe:jK Tryz.prog 100 36=some (List.replicate 8 (.int .i64)):=by kernel_rfl
theorem X6 {l:List Int} (h:l.length=8):(Qp l).map Jg=(List.replicate 8 (SK.int .i64)).map some:=by
 rw[← h];apply List.ext_getElem<;>simp[Qp,Jg]
theorem Xk8 {c:Cx} {ne:Bool} (l:List Int) (h:l.length=8):pD Tryz.prog c (.cA ne 36) [.agg (Qp l),.agg (Qp l)] (.bool (ne != true)) :=
 JL Xpe (by kernel_rfl) (by kernel_rfl) (X6 h) (X6 h) av
theorem Xnz {S:NS} (h:NK S) (a:Ac):(S.step a).2.aF≤S.aF + 1:=by
 unfold NS.step
 split
 ·exact Nat.le_succ _
 have h1:=h.toNI.eD (S.aF + 1)
 dsimp only
 split
 ·exact Nat.le_of_eq (h1.out a.frame a.draw).2.act
 split
 ·exact Nat.le_of_eq (h1.aR a.frame).2.act
 split
 ·exact Nat.le_of_eq (h1.tick a.n).2.act
 split
 ·split<;>exact Nat.le_refl _
 ·exact Nat.le_refl _
theorem X7 (b:Bool) (l:List Ac):∀ i,(Yo b l i).aF≤i
 | 0=>Nat.le_refl _
 | i + 1=>Nat.le_trans (Xnz (u4 b l i) _) (Nat.succ_le_succ (X7 b l i))
theorem To.one {S:NS} {T:WT} {t t':List (Nat × AV)} {x:Bk} (hT:T.wf) (hx:bJ 0 x) (ht:Qy (fun i=>if i=70 then 0 else 1 + i) 71 t t'):To [] ⟨t,[(0,x)]++Xc (fun b=>1 + b) (Qm S T),71⟩ ⟨t',[(70,x)]++Qm S T,71⟩:=by
 refine To.lY (fun i=>if i=70 then 0 else 1 + i) ((Qj hT).more (oT (Nat.zero_le _) hx)) (fun b hb=>by cases hb) (fun b b' h1 h2 e=>?_) (fun b hb=>?_) ht
 ·(repeat' split at e)<;>omega
 ·by_cases h:b=70
  ·subst h
   show Qc ((0,x)::Xc (fun b=>1 + b) (Qm S T)) 71 (if 70=70 then 0 else 1 + 70)=Xg _ (Qc ((70,x)::Qm S T) 71 70)
   rw[if_pos rfl,Qd,if_pos rfl,Qd,if_pos rfl,Ko (g:=id) (fun j hj=>by omega) hx,Wg]
  ·show Qc ((0,x)::Xc (fun b=>1 + b) (Qm S T)) 71 (if b=70 then 0 else 1 + b)=Xg _ (Qc ((70,x)::Qm S T) 71 b)
   rw[if_neg h,Qd,if_neg af,Qd,if_neg fun e=>h e.symm]
   have jb:b < 70:=by omega
   rw[(Qj hT).lo jb 71,Kb (m:=70) (fun b b' h1 h2 e=>by omega) jb (fun q hq=>((Qj hT).mem q hq).1) ((Qj hT).fN b jb)]
   exact Ko (fun j hj=>by rw[if_neg af]) ((Qj hT).nm jb)
theorem X8 {o:List Int} {n:Nat} (hl:o.length=n) (h:∀ i,i < n→o.getD i 0=0):o=List.replicate n 0:=by
 refine List.ext_getElem (by simp[hl]) fun i h1 h2=>?_
 have:=h i af
 rw[List.getD_eq_getElem?_getD,List.getElem?_eq_getElem h1]at this
 rw[List.getElem_replicate]
 exact this
structure ve (S:NS):Prop where
 fl:S.fl=[]
 maps:S.tb.maps=[]
 own:S.tb.aq.own=List.replicate 18 0
 home:S.tb.home=List.replicate 8 0
theorem NJ.bare {S:NS} (h:NJ S) (hf:S.fl=[]):ve S:=by
 have hm:S.tb.maps=[]:=List.eq_nil_iff_forall_not_mem.2 fun m hm=>by
  obtain ⟨q,hq,_⟩:=h.has m hm
  rw[hf]at hq;cases hq
 have ho:S.tb.aq.own=List.replicate 18 0:=X8 h.wf.aq.own fun i hi=>Decidable.not_not.1 fun bN=>by
  obtain ⟨m,sY,_⟩:=(h.gt.used i hi).1 bN
  rw[hm]at sY;cases sY
 refine ⟨hf,hm,ho,X8 h.wf.home fun s hs=>Decidable.not_not.1 fun bN=>?_⟩
 have:=(h.gt.home s hs).1 bN
 rw[ho]at this
 unfold Jn at this
 simp at this
 omega
theorem Xk5 {S:NS} (h:NI S):∀ q ∈ S.fl,(S.ended 60).contains q.1=true:=fun q hq=>by
 have hd:=(h.due q hq).2
 exact List.contains_iff_mem.2 (DZ.2 ⟨⟨q.1,q.2.due.toNat⟩,List.mem_map.2 ⟨q,hq,rfl⟩,by show q.2.due.toNat < S.now + (60:Int).toNat + 1;omega,rfl⟩)
theorem Xhb {S:NS} (h:NK S) (ha:S.aF < 300) (dr:Int) (f:List UInt8):((S.step ⟨3,60,dr,f⟩).1.code=0∨(S.step ⟨3,60,dr,f⟩).1.code=2)∧((S.step ⟨3,60,dr,f⟩).1.code=0→ve (S.step ⟨3,60,dr,f⟩).2):=by
 have hk:=h.step ⟨3,60,dr,f⟩
 have h1:=h.toNI.eD (S.aF + 1)
 have e:S.step ⟨3,60,dr,f⟩=({ S with aF:=S.aF + 1 }:NS).tick 60:=by
  unfold NS.step
  rw[if_neg af]
  rfl
 rw[e]at hk ⊢
 rw[A7]at hk ⊢
 split
 ·exact ⟨.inr rfl,fun h=>absurd h (by simp[bS])⟩
 ·rename_i hd
  rw[if_neg hd]at hk
  refine ⟨.inl rfl,fun _=>hk.toNI.toNJ.bare ?_⟩
  obtain ⟨es,e2,hE⟩:=Nz (h1.later hd) (({ S with aF:=S.aF + 1 }:NS).ended 60)
  show (((({ S with aF:=S.aF + 1 }:NS).ended 60).foldl cj (({ S with aF:=S.aF + 1 }:NS).later 60,[])).1).fl=[]
  rw[hE.fl]
  refine List.filter_eq_nil_iff.2 fun q hq=>?_
  have:=Xk5 h1 q hq
  rw[this];simp
set_option maxHeartbeats 8000000 in
theorem Yaa (gl:Nat→AV) (S:NS) (T:WT) (hT:T.wf) (a:Ac) (r:Rp) (log:List UInt8) (gF:(log++r.log).length≤140737488355328) :
  GD Tryz.prog gl 57 [.ptr 67 0,.agg a.enc,.agg r.enc,.ptr 70 0] ([(70,.cells [.str log])]++Qm S T) 71 (List.range 71) (.bool true) ([(70,.cells [.str (log++r.log)])]++Qm S T):=by
 have n8:FT Tryz.prog 57 Tryz.f57 (aQ Tryz.prog Tryz.f57) [.t 7]:=.of Tryz.func57
 have H1:∀ {l:List UInt8},HL ([(70,.cells [.str l])]++Qm S T) 71:=fun {l}=>(Qj hT).more (by simp[bJ,ai,Qe])
 refine n8.gq (of_decide_eq_true rfl) (fun q hq=>Xj ((H1 (l:=log)).mem q hq).2) (fun b hb=>List.mem_range.1 hb) fun c a7 hg=>?_
 subst hg
 conv in aQ _ _=>cbv
 have aM:=fun n b hb=>Yp (S:=S) hT n b hb
 obtain ⟨a1,a2,a3,a4⟩:=a
 obtain ⟨r1,r2,r3,r4⟩:=r
 unfold Ac.enc Rp.enc
 dsimp only at gF ⊢
 have EG:log.length + r4.length≤9223372036854775807:=by rw[List.length_append]at gF;omega
 (have au:=@aM;refine XG ?_;clear au;((try (repeat' with_reducible refine And.intro ?_ ?_));(try any_goals (first|refine zm ?_|exact CL|fail))))
 refine ⟨(),To.eg (p:=List.range 71) (ex0:=[(70,_),(72,_),(71,_),(70,_)]) H1 hT (fun b hb=>List.mem_range.1 hb) av av (fun b h1 h2=>?_) (by simp[Qy,Qe,ai,look,aE,az])⟩
 obtain rfl:b=70:=by omega
 rfl
def z8:List AV:=[.int .i64 0,.int .i64 0,.int .i64 0,.int .i64 0,.int .i64 0,.int .i64 0,.int .i64 0,.int .i64 0]
def OT:List AV:=z8++z8++[.int .i64 0,.int .i64 0]
theorem ve.enc {S:NS} (h:ve S) (hw:S.tb.wf):∃ d0 d1 d2,S.tb.enc=OT++[.bool d0,.bool d1,.bool d2]++z8++[.isl 0 []]:=by
 obtain ⟨_,h2,h3,h4⟩:=h
 have hd:=hw.aq.dr
 generalize S.tb=t at *
 obtain ⟨⟨own,dr⟩,home,maps⟩:=t
 dsimp only at h2 h3 h4 hd
 subst h2 h3 h4
 match dr,hd with
 | [d0,d1,d2],_=>exact ⟨d0,d1,d2,rfl⟩
set_option maxHeartbeats 16000000 in
theorem Xb0 (gl:Nat→AV) (h0:gl 0=.xp (Qp Xo) 0) (b:Bool) (l:List Ac) (hl:tn l) (hlen:l.length≤140737488351232):PS Tryz.prog gl 19 [.bool b,.isl l.length (hZ l)] (.bool true):=by
 have hB:∀ i,Bx [(0,.cells [.str (l9 b l i)])] 1:=fun i=>Bx.one (by simp[ai,Qe])
 obtain ⟨T,D,hW,hP,gM⟩:=W9 gl h0 b l hl hlen 57 [.ptr 70 0] (fun i=>[(0,.cells [.str (l9 b l i)])]) hB (by simp[ai,Qe]) (by show ai 1 [.ptr 0 0];simp[ai,Qe]) fun i hi T hT=>by
  obtain ⟨all,h,hle⟩:=HR b l (i + 1)
  have OS:Ye l≤100:=Nat.min_le_right _ _
  exact Yaa gl _ T hT _ _ (l9 b l i) (by show (l9 b l (i + 1)).length≤_;omega)
 rw[show az (sw 1) [.ptr 70 0]=[.ptr 0 0] from rfl]at gM
 have H1:=(hB (Ye l)).hk (S:=Yo b l (Ye l)) hW.wf
 have hK:=u4 b l (Ye l)
 have hac:(Yo b l (Ye l)).aF≤100:=Nat.le_trans (X7 b l (Ye l)) (Nat.min_le_right _ _)
 obtain ⟨all,hL,hle⟩:=HR b l (Ye l)
 have gF:(l9 b l (Ye l)).length≤200000:=by have:Ye l≤100:=Nat.min_le_right _ _;omega
 have hT:=hW.wf
 generalize Yo b l (Ye l)=S at *
 generalize l9 b l (Ye l)=L at *
 obtain ⟨es,cR⟩:=W4 hK ⟨3,60,0,[]⟩
 have q8:=XB S.told es
 have aJ:=cR.len
 have dz:=hL.told
 have eQ:=hK.qb
 have dS:=hL.step af cR
 have OU:=Xhb hK af 0 []
 obtain ⟨T1,D1,dp,jF,rY⟩:=N3 gl h0 S T D hK hW hP ⟨3,60,0,[]⟩ av
 have Ie:=hK.step ⟨3,60,0,[]⟩
 have X9:=cR.log
 generalize S.step ⟨3,60,0,[]⟩=x1 at *
 obtain ⟨⟨r1,r2,r3,r4⟩,S1⟩:=x1
 have bu:=dp.wf
 dsimp only at X9 OU dS dp jF Ie bu
 unfold Rp.enc Ac.enc at rY
 dsimp only at rY
 have YA:(L++r4).length≤140737488355328:=by rw[List.length_append,X9];omega
 have b8:(all++es).length≤4611686018427387904:=by rw[List.length_append];omega
 have EG:L.length + r4.length≤9223372036854775807:=by rw[List.length_append]at YA;omega
 have n8:FT Tryz.prog 19 Tryz.f19 (aQ Tryz.prog Tryz.f19) [.t 4]:=.of Tryz.func19
 refine n8.ps (of_decide_eq_true rfl) (by simp[Qe]) fun c hN hg=>?_
 subst hg
 conv in aQ _ _=>cbv
 have kK:=fun n=>yM n l
 have aM:=fun n j hj=>Yp (S:=S) hT n j hj
 have kr:=fun n j hj=>Yp (S:=S1) bu n j hj
 (refine XG ?_;((try (repeat' with_reducible refine And.intro ?_ ?_));(try any_goals (first|refine zm ?_|exact CL|fail))))
 refine pJ (p:=[]) (s':=⟨[(15,.bool b),(16,.isl l.length (hZ l)),(17,.cl 57 [.ptr 0 0]),(5,.ptr 0 0)],[(0,.cells [.str (l9 b l 0)])],1⟩) (by rw[hN];simp) (To.dH (by (refine XG ?_;((try (repeat' with_reducible refine And.intro ?_ ?_));(try any_goals (first|refine zm ?_|exact CL|fail))))) fun j=>?_) ?_
 ·by_cases h:j=0
  ·subst h;rfl
  ·(repeat rw[Qd,if_neg af])
 refine W5 gM (hB 0).toHL H1 aP (by simp[Qe,ai]) ?_ ?_
 ·(have au:=@kK;refine XG ?_;clear au;((try (repeat' with_reducible refine And.intro ?_ ?_));(try any_goals (first|refine zm ?_|exact CL|fail))))
 (refine XG ?_;((try (repeat' with_reducible refine And.intro ?_ ?_));(try any_goals (first|refine zm ?_|exact CL|fail))))
 (refine Qa (fun h9=>?_) (fun h9=>?_)<;>try exact h9.elim)
 (refine XG ?_;((try (repeat' with_reducible refine And.intro ?_ ?_));(try any_goals (first|refine zm ?_|exact CL|fail))))
 refine pJ (p:=[]) (s':=⟨[(23,.ptr 67 0),(24,.agg [.int .i64 3,.int .i64 60,.int .i64 0,.str []]),(5,.ptr 70 0),(6,.ptr 67 0)],[(70,.cells [.str L])]++Qm S T,71⟩) (by rw[hN];simp) (To.one hT (by simp[bJ,ai,Qe]) (by simp[Qy,Qe,ai,look,aE,az])) ?_
 refine pZ (v:=false) (pp:=[]) (ex:=[(70,_)]) (s3:=⟨[(5,.ptr 70 0),(6,.ptr 67 0),(25,.agg [.int .i64 r1,.str r2,.bool r3,.str r4])],[(70,.cells [.str L])]++Qm S1 T1,71⟩) (by rw[hN];simp) rY (Qj hT) (Qj bu) (by simp[Qe,ai]) aP av av rfl ?_ ?_ ?_
 ·(have au:=@Ya;refine XG ?_;clear au;((try (repeat' with_reducible refine And.intro ?_ ?_));(try any_goals (first|refine zm ?_|exact CL|fail))))
 ·unfold Jb
  refine To.kp bu ((Qj bu).more (by simp[bJ,ai,Qe])) aP aP av av av (fun b h1 h2=>?_) ?_
  ·obtain rfl:b=70:=by omega
   rfl
  ·simp[Qy,Qe,ai,look,aE,az,uW,lw,wx]
 rcases OU.1 with rfl|rfl
 rotate_left
 ·(have au:=@kr;refine XG ?_;clear au;((try (repeat' with_reducible refine And.intro ?_ ?_));(try any_goals (first|refine zm ?_|exact CL|fail))))
  (refine Qa (fun eH=>?_) (fun eH=>?_)<;>try exact eH.elim)
  (have au:=@kr;refine XG ?_;clear au;((try (repeat' with_reducible refine And.intro ?_ ?_));(try any_goals (first|refine zm ?_|exact CL|fail))))
 have sj:=OU.2 rfl
 obtain ⟨d0,d1,d2,Df⟩:=sj.enc Ie.wf
 have uT:=N4 c.gl S1 T1 Ie.toNI.toNJ bu
 have iJ:=N8 c.gl S1 T1 Ie.toNI.toNJ bu
 rw[Df]at uT
 rw[show S1.bP=[] by unfold NS.bP;rw[sj.fl];rfl]at iJ
 have la:=WQ c.gl h0 (L++r4) YA
 have n9:=WJ c.gl (all++es) b8
 rw[dS.r.ok]at la
 rw[dS.own,sj.own]at n9
 generalize all++es=A at *
 unfold Bc HI at la
 unfold HF at n9
 dsimp only at la n9
 have qM:=@XA c false (List.replicate 18 0) rfl
 have xo:=@Xk8 c false (List.replicate 8 0) rfl
 rw[show Qp (List.replicate 18 0)=OT from rfl]at qM n9
 rw[show Qp (List.replicate 8 0)=z8 from rfl]at xo
 unfold OT z8 at uT qM n9
 unfold z8 at xo
 unfold pz at n9
 simp only[List.cons_append,List.nil_append]at uT qM n9
 (have au:=@kr;refine XG ?_;clear au;((try (repeat' with_reducible refine And.intro ?_ ?_));(try any_goals (first|refine zm ?_|exact CL|fail))))
 (refine Qa (fun eH=>?_) (fun eH=>?_)<;>try exact eH.elim)
 (have au:=@kr;refine XG ?_;clear au;((try (repeat' with_reducible refine And.intro ?_ ?_));(try any_goals (first|refine zm ?_|exact CL|fail))))
 ((first|apply Xt|apply Xl|apply Xd|apply Xb)<;>(first|exact la|(have au:=@kr;refine XG ?_;clear au;first|exact rfl|exact True.intro|((try (repeat' with_reducible refine And.intro ?_ ?_));(try any_goals (first|refine zm ?_|exact CL|fail))))))
 ((first|apply Xt|apply Xl|apply Xd|apply Xb)<;>(first|exact n9|(have au:=@kr;refine XG ?_;clear au;first|exact rfl|exact True.intro|((try (repeat' with_reducible refine And.intro ?_ ?_));(try any_goals (first|refine zm ?_|exact CL|fail))))))
 refine nX (v:=false) (ex:=[(72,_),(72,_),(71,_),(71,_),(70,_)]) uT (Qj bu) (Qj bu) (by simp[Qe,ai]) aP av rfl ?_ ?_
 ·(have au:=@Ya;refine XG ?_;clear au;((try (repeat' with_reducible refine And.intro ?_ ?_));(try any_goals (first|refine zm ?_|exact CL|fail))))
 (have au:=@kr;refine XG ?_;clear au;((try (repeat' with_reducible refine And.intro ?_ ?_));(try any_goals (first|refine zm ?_|exact CL|fail))))
 ((first|apply Xt|apply Xl|apply Xd|apply Xb)<;>(first|exact qM|(have au:=@kr;refine XG ?_;clear au;first|exact rfl|exact True.intro|((try (repeat' with_reducible refine And.intro ?_ ?_));(try any_goals (first|refine zm ?_|exact CL|fail))))))
 refine V4 (v:=false) (ex:=[(143,_),(143,_),(72,_),(72,_),(71,_),(71,_),(70,_)]) iJ (Qj bu) (Qj bu) (by simp[Qe,ai,ef]) aP av rfl ?_ ?_ ?_
 ·(refine XG ?_;((try (repeat' with_reducible refine And.intro ?_ ?_));(try any_goals (first|refine zm ?_|exact CL|fail))))
 ·(have au:=@Ya;refine XG ?_;clear au;((try (repeat' with_reducible refine And.intro ?_ ?_));(try any_goals (first|refine zm ?_|exact CL|fail))))
 (have au:=@kr;refine XG ?_;clear au;((try (repeat' with_reducible refine And.intro ?_ ?_));(try any_goals (first|refine zm ?_|exact CL|fail))))
 ((first|apply Xt|apply Xl|apply Xd|apply Xb)<;>(first|exact xo|(have au:=@kr;refine XG ?_;clear au;first|exact rfl|exact True.intro|((try (repeat' with_reducible refine And.intro ?_ ?_));(try any_goals (first|refine zm ?_|exact CL|fail))))))
 ((first|apply Xt|apply Xl|apply Xd|apply Xb)<;>(first|exact qM|(have au:=@kr;refine XG ?_;clear au;first|exact rfl|exact True.intro|((try (repeat' with_reducible refine And.intro ?_ ?_));(try any_goals (first|refine zm ?_|exact CL|fail))))))
end Go.Proofs.YtogckmommodmhaaGreatDoor
