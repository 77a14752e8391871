import Derived.Test.YtogckmommodmhaaGreatDoorZv14
import Derived.Test.YtogckmommodmhaaGreatDoorZv13
import Derived.Test.YtogckmommodmhaaGreatDoorZv5
import Derived.Test.YtogckmommodmhaaGreatDoorZv17
import Derived.Test.YtogckmommodmhaaGreatDoorZv11
import Derived.Test.YtogckmommodmhaaGreatDoorZv18
import Derived.Test.YtogckmommodmhaaGreatDoorZv10
import Derived.Test.YtogckmommodmhaaGreatDoorZv6
import Derived.Test.YtogckmommodmhaaGreatDoorRows
import Derived.KernelRfl
namespace Go.Proofs.YtogckmommodmhaaGreatDoor
open Go.RowKit
set_option linter.all false
set_option linter.unusedSimpArgs false
set_option maxRecDepth 100000
section
variable {P:Program} {c:Cx} {h h1 ex:List (Nat × Bk)} {m n:Nat} {v:Bool} {d:Option Nat} {kk:PK} {f:FuncId} {xs:List TV} {args:List AV} {r:AV} {t:List (Nat × AV)} {r0:List bG} {K:St→Prop}
theorem YB {anc:List Nat} {fs:List bn} (hq:GD P c.gl f args h m (List.range m) r h1) (H:HL h m) (H1:HL h1 m) (hr:Qe m r) (hn:m≤n) (hex:∀ q ∈ ex,m≤q.1∧q.1 < n) (hk:kk=(bif v then .cX else .call f))
  (hc:Qv none (aG c.gl (⟨t,ex++h,n⟩:St).fs xs)∧lR v f ((aG c.gl (⟨t,ex++h,n⟩:St).fs xs).map Qk)=some (f,args)∧ai m args) (hx:XD P c anc r0 (⟨Xr xs,gO id m n,d.toList,gO id m n⟩::fs) K (St.bQ ⟨t,ex++h1,n + m⟩ d r)):Zm P c anc (.pd d kk xs none) r0 fs K ⟨t,ex++h,n⟩:=by
 have:=F9 (d:=d) (anc:=anc) (fs:=fs) (r0:=r0) (K:=K) hq (yw (v:=v) H hn (fun b hb=>List.mem_range.1 hb) hex hc) hk H1 hr (by rw[DT H1 hr];exact hx)
 rw[Jz]at this;exact this
end
theorem Ya0:FT Tryz.prog 21 Tryz.f21 (aQ Tryz.prog Tryz.f21) [.t 2]:=.of Tryz.func21
set_option maxHeartbeats 2000000 in
theorem Xyz (gl:Nat→AV) (S:NS) (T:WT) (D:List Tm) (hS:NJ S) (hW:WI T S.now D):GD Tryz.prog gl 21 [.ptr 67 0] (Qm S T) 70 (List.range 70) (.int .i64 S.now) (Qm S T):=by
 have hT:=hW.wf
 refine Ya0.gq (of_decide_eq_true rfl) (Zx hT) (fun b hb=>List.mem_range.1 hb) fun c a7 hg=>?_
 conv in aQ _ _=>cbv
 have bH:=Kq S T
 have aX:=NS.aS hS.wf
 have gZ:=NS.gZ hS.wf
 have dO:=hW.fJ c.gl
 refine Qg ?_
 (refine Qa (fun h1=>?_) (fun h1=>?_)<;>try exact h1.elim)
 refine Qh (An @bH (An @aX @gZ)) ?_
 refine Nw (ex:=[(67,_),(68,_),(69,_)]) dO hT aP av (by exact Qw) (by simp[Qe]) ?_
 refine Qg ?_
 exact ⟨(),To.iZ (ex:=[]) hT av (fun b hb=>List.mem_range.1 hb) (by simp[Qy,Qe,ai,look,aE,az])⟩
set_option maxHeartbeats 4000000 in
theorem Xmv (gl:Nat→AV) (h0:gl 0=.xp (Qp Xo) 0) (b:Bool) (l:List Ac) (hl:tn l) (hlen:l.length≤140737488351232) (lk:FuncId)
  (lT:∀ i,i < Ye l→∀ (T:WT) (D:List Tm),WI T (Yo b l (i + 1)).now D→GD Tryz.prog gl lk [.ptr 67 0,.agg (l.getD i lZ).enc,.agg (n7 b l i).enc] (Qm (Yo b l (i + 1)) T) 70 (List.range 70) (.bool true) (Qm (Yo b l (i + 1)) T)) :
  ∃ T D,WI T (Yo b l (Ye l)).now D∧D.Perm (Yo b l (Ye l)).bb∧GS Tryz.prog gl 30 [.bool b,.isl l.length (hZ l),.cl lk []] [] 0 (.aU [.ptr 67 0,.bool true]) (Qm (Yo b l (Ye l)) T) 70:=by
 obtain ⟨Ts,Cg,Bi,rY⟩:=V6 gl h0 b l hl
 obtain ⟨D,hD⟩:=Bi (Ye l)
 refine ⟨Ts (Ye l),D,hD.1,hD.2,?_⟩
 have jB:∀ i,(Ts i).wf:=fun i=>by
  obtain ⟨D,hD⟩:=Bi i
  exact hD.1.wf
 have Ey:=V5 gl h0
 have b6:=N9 gl b
 rw[← Cg]at b6
 refine HD.VZ (of_decide_eq_true rfl) fun c a7 hg=>?_
 subst hg
 conv in aQ _ _=>cbv
 (refine XG ?_;((try (repeat' with_reducible refine And.intro ?_ ?_));(try any_goals (first|refine zm ?_|exact CL|fail))))
 ((first|apply Xt|apply Xl|apply Xd|apply Xb)<;>(first|exact Ey|(refine XG ?_;first|exact rfl|exact True.intro|((try (repeat' with_reducible refine And.intro ?_ ?_));(try any_goals (first|refine zm ?_|exact CL|fail))))))
 (refine Qa (fun h1=>?_) (fun h1=>?_)<;>try exact h1.elim)
 (refine XG ?_;((try (repeat' with_reducible refine And.intro ?_ ?_));(try any_goals (first|refine zm ?_|exact CL|fail))))
 refine DR b6 (Qj (jB 0)) ?_ av ?_
 ·(refine XG ?_;((try (repeat' with_reducible refine And.intro ?_ ?_));(try any_goals (first|refine zm ?_|exact CL|fail))))
 dsimp only[List.nil_append]
 rw[V3]
 (refine XG ?_;((try (repeat' with_reducible refine And.intro ?_ ?_));(try any_goals (first|refine zm ?_|exact CL|fail))))
 have aX:=V7 l
 have kK:=fun n=>yM n l
 have OA:=fun ρ:Nat→Nat=>Jy (hZ l)
 have gM:Ye l≤l.length∧Ye l≤100:=⟨Nat.min_le_left _ _,Nat.min_le_right _ _⟩
 refine Yk (fun i:Nat=>i≤Ye l) (fun i=>⟨[(1,.isl l.length (hZ l)),(2,.cl lk []),(8,.ptr 67 0),(9,.int .i64 i)],Qm (Yo b l i) (Ts i),70⟩) (fun i=>Ye l - i) HD.mixed (List.range 0) a7
  ⟨0,Nat.zero_le _,To.dH (by (refine XG ?_;((try (repeat' with_reducible refine And.intro ?_ ?_));(try any_goals (first|refine zm ?_|exact CL|fail))))) fun b=>rfl⟩ fun i hi=>?_
 (refine XG ?_;((try (repeat' with_reducible refine And.intro ?_ ?_));(try any_goals (first|refine zm ?_|exact CL|fail))))
 (refine Qa (fun h2=>?_) (fun h2=>?_)<;>try exact h2.elim)
 ·have rm:i < l.length:=by omega
  have AM:i < Ye l:=by unfold Ye;omega
  have iu:=V8 l rm
  have hd:=rY i
  obtain ⟨D1,lX,_⟩:=Bi (i + 1)
  have mX:=lT i AM (Ts (i + 1)) D1 lX
  have hT:=jB i
  have bu:=jB (i + 1)
  generalize l.getD i lZ=a at *
  obtain ⟨a1,a2,a3,a4⟩:=a
  have yR:∃ r1 r2 r3 r4,n7 b l i=⟨r1,r2,r3,r4⟩:=⟨_,_,_,_,rfl⟩
  obtain ⟨r1,r2,r3,r4,yR⟩:=yR
  rw[yR]at hd mX
  dsimp only[Ac.enc,Rp.enc]at iu hd mX
  (have au:=@aX;have aH:=@iu;refine XG ?_;clear au aH;((try (repeat' with_reducible refine And.intro ?_ ?_));(try any_goals (first|refine zm ?_|exact CL|fail))))
  have wC:=kK 70
  have EI:=fun ρ:Nat→Nat=>show az ρ (hZ l)=hZ l by rw[Yu];exact (List.map_congr_left fun v hv=>ti (Xv.1 (yM 0 l) v hv)).trans (List.map_id _)
  refine pZ (v:=false) (pp:=List.range 0) (ex:=[]) (s3:=⟨[(1,.isl l.length (hZ l)),(2,.cl lk []),(8,.ptr 67 0),(9,.int .i64 i),(30,.agg [.int .i64 r1,.str r2,.bool r3,.str r4])],Qm (Yo b l (i + 1)) (Ts (i + 1)),70⟩) a7 hd (Qj hT) (Qj bu) (by simp[Qe,ai]) aP av av rfl ?_ ?_ ?_
  ·(have au:=@Ya;refine XG ?_;clear au;((try (repeat' with_reducible refine And.intro ?_ ?_));(try any_goals (first|refine zm ?_|exact CL|fail))))
  ·refine To.wy bu aP av av ?_
   simp[yL,Qy,Qe,ai,look,aE,az,wx,wC,EI]
  have aM:=fun n j hj=>Yp (S:=Yo b l (i + 1)) bu n j hj
  (have au:=@aM;have aH:=@aX;have aV:=@iu;refine XG ?_;clear au aH aV;((try (repeat' with_reducible refine And.intro ?_ ?_));(try any_goals (first|refine zm ?_|exact CL|fail))))
  refine YB (v:=true) (ex:=[(70,_),(70,_)]) mX (Qj bu) (Qj bu) (by simp[Qe]) aP av rfl ?_ ?_
  ·(refine XG ?_;((try (repeat' with_reducible refine And.intro ?_ ?_));(try any_goals (first|refine zm ?_|exact CL|fail))))
   exact rfl
  (have au:=@aM;refine XG ?_;clear au;((try (repeat' with_reducible refine And.intro ?_ ?_));(try any_goals (first|refine zm ?_|exact CL|fail))))
  (refine Qa (fun h3=>?_) (fun h3=>?_)<;>try exact h3.elim)
  (refine XG ?_;((try (repeat' with_reducible refine And.intro ?_ ?_));(try any_goals (first|refine zm ?_|exact CL|fail))))
  exact ⟨i + 1,by omega,To.drop (ex:=[(70,_),(70,_)]) (Qj bu) av av (by simp[Qy,Qe,ai,look,aE,az,wC,EI]),by omega⟩
 ·have e:i=Ye l:=by unfold Ye at hi ⊢;omega
  subst e
  (refine XG ?_;((try (repeat' with_reducible refine And.intro ?_ ?_));(try any_goals (first|refine zm ?_|exact CL|fail))))
  exact To.drop (ex:=[]) (Qj (jB _)) av av (by simp[Qy,Qe,ai,look,aE,az])
theorem YC (l:List Fl) (k:Nat) (h:k < l.length):((ef l).drop (k * 10)).take 10=l[k].enc:=by
 induction l generalizing k with
 | nil=>simp at h
 | cons a l ih =>
  cases k with
  | zero=>simp[ef,Fl.enc,Wf]
  | succ k =>
   have:=ih k (by simpa using h)
   rw[show (k + 1) * 10=10 + k * 10 by omega,← List.drop_drop]
   simpa [ef,Fl.enc,Wf] using this
def ia (U:List Mp):List (AV × AV):=U.map fun m=>(.agg m.enc,.bool true)
theorem y9:dk Tryz.prog 81 true [.int .i64,.int .i64,.int .i64,.int .i64,.int .i64] (.bool false):=dk.mk' (by kernel_rfl)
theorem YD (U:List Mp):xj true [.int .i64,.int .i64,.int .i64,.int .i64,.int .i64] (ia U):=fun q hq=>by
 obtain ⟨t,_,rfl⟩:=List.mem_map.1 hq
 rfl
theorem OV (U:List Mp) (m:Mp):iy (ia U) (.agg m.enc)=U.findIdx? fun x=>decide (x=m):=by
 unfold iy ia
 induction U with
 | nil=>rfl
 | cons t D ih =>
  simp only[List.map_cons,List.findIdx?_cons]
  rw[ih]
  by_cases h:t=m
  ·simp[h]
  ·have h2:¬ AV.agg t.enc=AV.agg m.enc:=fun e=>h (Ti.2 (AV.agg.inj e))
   simp[h,h2]
theorem OX {U:List Mp} {m:Mp} {i:Nat} (h:(U.findIdx? fun x=>decide (x=m))=some i):∃ hi:i < U.length,U[i]=m:=by
 obtain ⟨hi,h1,_⟩:=List.findIdx?_eq_some_iff_getElem.1 h
 exact ⟨hi,by simpa using h1⟩
theorem OY {U:List Mp} {m:Mp} (h:(U.findIdx? fun x=>decide (x=m))=none):m ∉ U:=fun hm=>by
 have:=List.findIdx?_eq_none_iff.1 h m hm
 simp at this
theorem Xti (U:List Mp) (m:Mp):nt (ia U) (.agg m.enc) (.bool false)=.bool (decide (m ∈ U)):=by
 unfold nt
 rw[OV]
 cases h:U.findIdx? fun x=>decide (x=m) with
 | none=>have:=OY h;simp[this]
 | some i =>
  obtain ⟨hi,rfl⟩:=OX h
  simp[ia,List.getD,hi]
theorem Xuc (U:List Mp) (m:Mp):nu (ia U) (.agg m.enc) (.bool true)=ia (if m ∈ U then U else U++[m]):=by
 unfold nu
 rw[OV]
 cases h:U.findIdx? fun x=>decide (x=m) with
 | none=>have:=OY h;simp[this,ia]
 | some i =>
  obtain ⟨hi,rfl⟩:=OX h
  rw[if_pos (List.getElem_mem hi)]
  dsimp only
  refine List.ext_getElem (by simp[ia]) fun j h1 h2=>?_
  rw[List.getElem_set]
  split
  ·rename_i e;subst e;simp[ia]
  ·rfl
theorem YE {α β:Type} (f:α→β):∀ (l:List α) (i:Nat),(l.map f).eraseIdx i=(l.eraseIdx i).map f
 | [],_=>rfl
 | _::_,0=>rfl
 | a::l,i + 1=>by simp[YE f l i]
theorem Xru {U:List Mp} (hn:U.Nodup) (m:Mp):∃ V,ud (ia U) (.agg m.enc)=ia V∧V.Nodup∧∀ x,x ∈ V ↔ x ∈ U∧x≠m:=by
 unfold ud
 rw[OV]
 cases h:U.findIdx? fun x=>decide (x=m) with
 | none =>
  have:=OY h
  exact ⟨U,rfl,hn,fun x=>⟨fun hx=>⟨hx,fun e=>this (e ▸ hx)⟩,fun hx=>hx.1⟩⟩
 | some i =>
  obtain ⟨hi,rfl⟩:=OX h
  refine ⟨U.eraseIdx i,?_,hn.sublist (List.eraseIdx_sublist ..),fun x=>?_⟩
  ·dsimp only
   exact YE _ U i
  ·rw[List.mem_eraseIdx_iff_getElem]
   constructor
   ·rintro ⟨j,hj,bN,rfl⟩
    refine ⟨List.getElem_mem hj,fun e=>bN ?_⟩
    exact (List.getElem_inj hn).1 e
   ·rintro ⟨hx,bN⟩
    obtain ⟨j,hj,rfl⟩:=List.getElem_of_mem hx
    exact ⟨j,hj,fun e=>bN (by subst e;rfl),rfl⟩
structure Used (U:List Mp) (l:List Fl):Prop where
 nd:U.Nodup
 mem:∀ m,m ∈ U ↔ ∃ f ∈ l,f.map=m
theorem Used.nil:Used [] []:=⟨List.nodup_nil,by simp⟩
theorem Used.snoc {U:List Mp} {l:List Fl} (h:Used U l) (f:Fl):Used (if f.map ∈ U then U else U++[f.map]) (l++[f]):=by
 refine ⟨?_,fun m=>?_⟩
 ·split
  ·exact h.nd
  ·rename_i hn
   rw[List.nodup_append]
   exact ⟨h.nd,by simp,fun a ha b hb e=>by
    obtain rfl:=List.mem_singleton.1 hb
    exact hn (e ▸ ha)⟩
 ·split
  ·rename_i hm
   rw[h.mem]
   constructor
   ·rintro ⟨g,hg,e⟩;exact ⟨g,by simp[hg],e⟩
   ·rintro ⟨g,hg,e⟩
    rcases List.mem_append.1 hg with hg|hg
    ·exact ⟨g,hg,e⟩
    ·obtain rfl:=List.mem_singleton.1 hg
     subst e
     exact (h.mem _).1 hm
  ·rw[List.mem_append,h.mem]
   constructor
   ·rintro (⟨g,hg,e⟩|hm)
    ·exact ⟨g,by simp[hg],e⟩
    ·exact ⟨f,by simp,(List.mem_singleton.1 hm).symm⟩
   ·rintro ⟨g,hg,e⟩
    rcases List.mem_append.1 hg with hg|hg
    ·exact .inl ⟨g,hg,e⟩
    ·obtain rfl:=List.mem_singleton.1 hg
     exact .inr (by simp[e])
theorem GT.nodup {t:Tb} (h:GT t):t.maps.Nodup:=by
 refine List.Pairwise.imp (fun {a b} hk e=>?_) h.apart
 subst e
 simp[Zy]at hk
structure EJ (S:NS) (l:List Fl):Prop where
 len:l.length≤48
 due:∀ i (h:i < l.length),(S.now:Int) < (l[i]).due
 mS:∀ i j (hj:j < i) (hi:i < l.length),¬ ((l[j]'af).map=(l[i]).map∧(l[j]'af).rem=(l[i]).rem∧(l[j]'af).rport=(l[i]).rport)
 maps:∀ U,Used U l→∀ m,m ∈ U ↔ m ∈ S.tb.maps
theorem NI.EK {S:NS} (h:NI S):EJ S S.bP where
 len:=by simp[NS.bP];exact h.len
 due i hi:=by
  have AP:i < S.fl.length:=by simpa [NS.bP] using hi
  have:=(h.due S.fl[i] (List.getElem_mem AP)).1
  simpa [NS.bP] using this
 mS i j hj hi:=by
  have AP:i < S.fl.length:=by simpa [NS.bP] using hi
  have:=List.pairwise_iff_getElem.1 h.mS j i af AP hj
  simpa [NS.bP,U3] using this
 maps U hU m:=by
  rw[hU.mem]
  constructor
  ·rintro ⟨f,hf,rfl⟩
   obtain ⟨q,hq,rfl⟩:=List.mem_map.1 hf
   exact h.kj q hq
  ·intro hm
   obtain ⟨q,hq,e⟩:=h.has m hm
   exact ⟨q.2,List.mem_map.2 ⟨q,hq,rfl⟩,e⟩
theorem OZ (l:List Fl):∀ k,(ef l).take (k * 10)=ef (l.take k):=by
 induction l with
 | nil=>intro k;simp[ef]
 | cons a l ih =>
  intro k
  cases k with
  | zero=>simp[ef]
  | succ k =>
   have e:ef (a::l)=a.enc++ef l:=rfl
   have e2:ef ((a::l).take (k + 1))=a.enc++ef (l.take k):=rfl
   rw[e,e2,show (k + 1) * 10=a.enc.length + k * 10 by simp[Fl.enc,Wf];omega,List.take_length_add_append,ih]
set_option maxHeartbeats 16000000 in
theorem Xze (gl:Nat→AV) (S:NS) (T:WT) (D:List Tm) (hS:NI S) (hW:WI T S.now D) (a:Ac) (r:Rp) :
  GD Tryz.prog gl 51 [.ptr 67 0,.agg a.enc,.agg r.enc] (Qm S T) 70 (List.range 70) (.bool true) (Qm S T):=by
 have hT:=hW.wf
 have n8:FT Tryz.prog 51 Tryz.f51 (aQ Tryz.prog Tryz.f51) [.t 6]:=.of Tryz.func51
 refine n8.gq (of_decide_eq_true rfl) (Zx hT) (fun b hb=>List.mem_range.1 hb) fun c a7 hg=>?_
 subst hg
 conv in aQ _ _=>cbv
 have aM:=fun n b hb=>Yp (S:=S) hT n b hb
 have hG:=hS.EK
 have oG:=hS.gt.nodup
 have uT:=N4 c.gl S T hS.toNJ hT
 have iJ:=N8 c.gl S T hS.toNJ hT
 have dO:=Xyz c.gl S T D hS.toNJ hW
 have bf:=AF c.gl S.tb (hS.gt.ok hS.wf)
 rw[(xO S.tb).2 (Ur.2 hS.gt)]at bf
 have N5:=xP (Ur.2 hS.gt)
 have e2:=Tb.aD hS.wf
 have ss:S.tb.enc.take 30=S.tb.enc:=List.take_of_length_le (by rw[e2];decide)
 have e3:=Tb.cO hS.wf
 have O0:=Tb.b9 (t:=S.tb)
 have Ek:=Tb.da S.tb
 have pN:=Jp S.tb.maps
 have sA:=Gm
 have Gy:=LF
 have YF:=hS.now
 generalize hF:S.bP=F at *
 generalize hE:S.tb.enc=E at *
 generalize hM:S.tb.maps=M at *
 have mD:=fun n=>Bb n F
 have kx:=fun ρ=>N7 ρ F
 have YG:=N6 F
 have tia:=hG.len
 obtain ⟨a1,a2,a3,a4⟩:=a
 obtain ⟨r1,r2,r3,r4⟩:=r
 unfold Ac.enc Rp.enc
 (have au:=@aM;refine XG ?_;clear au;((try (repeat' with_reducible refine And.intro ?_ ?_));(try any_goals (first|refine zm ?_|exact CL|fail))))
 refine nX (v:=false) (ex:=[(71,_),(70,_)]) uT (Qj hT) (Qj hT) (by simpa [Qe] using O0 70) aP av rfl ?_ ?_
 ·(have au:=@Ya;refine XG ?_;clear au;((try (repeat' with_reducible refine And.intro ?_ ?_));(try any_goals (first|refine zm ?_|exact CL|fail))))
 (refine XG ?_;((try (repeat' with_reducible refine And.intro ?_ ?_));(try any_goals (first|refine zm ?_|exact CL|fail))))
 refine nX (v:=false) (ex:=[(71,_),(70,_)]) iJ (Qj hT) (Qj hT) (by simpa [Qe] using mD 70) aP av rfl ?_ ?_
 ·(have au:=@Ya;refine XG ?_;clear au;((try (repeat' with_reducible refine And.intro ?_ ?_));(try any_goals (first|refine zm ?_|exact CL|fail))))
 (have au:=@aM;have aH:=@e2;have aV:=@ss;refine XG ?_;clear au aH aV;((try (repeat' with_reducible refine And.intro ?_ ?_));(try any_goals (first|refine zm ?_|exact CL|fail))))
 ((first|apply Xt|apply Xl|apply Xd|apply Xb)<;>(first|exact bf|(have au:=@aM;have aH:=@e2;have aV:=@ss;have bD:=@O0;refine XG ?_;clear au aH aV bD;first|exact rfl|exact True.intro|((try (repeat' with_reducible refine And.intro ?_ ?_));(try any_goals (first|refine zm ?_|exact CL|fail))))))
 (refine Qa (fun h1=>?_) (fun h1=>?_)<;>try exact h1.elim)
 (have au:=@aM;refine XG ?_;clear au;((try (repeat' with_reducible refine And.intro ?_ ?_));(try any_goals (first|refine zm ?_|exact CL|fail))))
 (refine KR y9 ?_;(have au:=@aM;refine XG ?_;clear au;((try (repeat' with_reducible refine And.intro ?_ ?_));(try any_goals (first|refine zm ?_|exact CL|fail)))))
 refine z2 ?_
 (refine XG ?_;((try (repeat' with_reducible refine And.intro ?_ ?_));(try any_goals (first|refine zm ?_|exact CL|fail))))
 have H2:∀ U dn,HL ([(71,.cells E),(70,.aC (ia U) dn)]++Qm S T) 72:=fun U dn=>((Qj hT).more (show bJ 71 (.aC (ia U) dn) from fun q hq=>by
  obtain ⟨m,_,rfl⟩:=List.mem_map.1 hq
  simp[Qe,ai,Mp.enc])).more (by simpa [bJ] using O0 72)
 have hrU:∀ ρ U dn,Xg ρ (.aC (ia U) dn)=.aC (ia U) dn:=fun ρ U dn=>by
  simp[Xg,ia,aE,az,Mp.enc,Function.comp_def]
 refine Yk (σ:=Nat × List Mp) (fun x=>x.1≤F.length∧Used x.2 (F.take x.1)) (fun x=>⟨[(0,.ptr 67 0),(7,.ptr 71 0),(8,.isl F.length (ef F)),(9,.mp 70),(29,.isl F.length (ef F)),(30,.int .i64 F.length),(31,.int .i64 x.1)],[(71,.cells E),(70,.aC (ia x.2) true)]++Qm S T,72⟩) (fun x=>F.length - x.1) n8.mixed (List.range 70) a7
  ⟨(0,[]),⟨Nat.zero_le _,Used.nil⟩,?_⟩ fun x hx=>?_
 ·refine To.jG (ex:=[(213,.aC [] true),(212,.cells E),(212,_),(71,_),(70,_)]) (ex':=[(71,.cells E),(70,.aC (ia []) true)]) (fun b=>if b=70 then 213 else if b=71 then 212 else b) hT (H2 _ _) (by decide) (by simp) (by simp) (by simp) (fun b hb=>by rw[if_neg (by omega),if_neg (by omega)]) (fun b h h2=>by (repeat' split)<;>omega) (fun b b' h1 h2 h3 h4 e=>by (repeat' split at e)<;>omega) rfl rfl rfl (fun b h1 h2=>?_) (by simp[Qy,Qe,ai,look,aE,az,mD,kx])
  rcases (by omega:b=70∨b=71) with rfl|rfl
  ·rfl
  ·show Bk.cells E=Bk.cells (az _ E)
   rw[Ek]
 obtain ⟨i,U⟩:=x
 obtain ⟨hi,hU⟩:=hx
 dsimp only at hi hU ⊢
 (refine XG ?_;((try (repeat' with_reducible refine And.intro ?_ ?_));(try any_goals (first|refine zm ?_|exact CL|fail))))
 (refine Qa (fun h2=>?_) (fun h2=>?_)<;>try exact h2.elim)
 ·have aI:i < F.length:=by omega
  have a8:=YC F i aI
  have mQ:=hG.due i aI
  have EL:=fun j hj=>hG.mS i j hj aI
  have O1:=hU.snoc F[i]
  rw[show F.take i++[F[i]]=F.take (i + 1) by rw[List.take_succ,List.getElem?_eq_getElem aI];rfl]at O1
  have D9:∀ n,ai n ((ef F).take (i * 10)):=fun n=>by rw[OZ];exact Bb n _
  have Bg:∀ ρ,az ρ ((ef F).take (i * 10))=(ef F).take (i * 10):=fun ρ=>by rw[OZ];exact N7 ρ _
  have Ic:∀ j,j < i→(((ef F).take (i * 10)).drop (j * 10)).take 10=(F.getD j ⟨ff,0,0,0,0,0⟩).enc:=fun j hj=>by
   have ln:j < (F.take i).length:=by rw[List.length_take];omega
   rw[OZ,YC (F.take i) j ln]
   simp[List.getD,List.getElem?_eq_getElem (show j < F.length by omega)]
  have EH:((ef F).take (i * 10)).length=i * 10:=by rw[List.length_take,YG];omega
  have dK:=YD U
  have iY:=Xuc U (F[i]).map
  generalize kc:F[i]=f at *
  obtain ⟨⟨p0,p1,p2,p3,p4⟩,g0,g1,g2,g3,g4⟩:=f
  unfold Fl.enc Wf at a8
  unfold Mp.enc at iY
  dsimp only at a8 iY mQ O1 EL
  generalize (if (⟨p0,p1,p2,p3,p4⟩:Mp) ∈ U then U else U++[⟨p0,p1,p2,p3,p4⟩])=V at *
  have dI:Kj true [.int .i64,.int .i64,.int .i64,.int .i64,.int .i64] (.agg [.int .i64 p0,.int .i64 p1,.int .i64 p2,.int .i64 p3,.int .i64 p4]):=rfl
  have ka:(decide (g4≤(S.now:Int)))=false:=by simp;omega
  (have au:=@aM;have aH:=@YG;have aV:=@a8;refine XG ?_;clear au aH aV;((try (repeat' with_reducible refine And.intro ?_ ?_));(try any_goals (first|refine zm ?_|exact CL|fail))))
  ((first|refine z6 y9 ?_|refine z7 y9 ?_);(have au:=@dK;have aH:=@dI;have aV:=@iY;have bD:=@aM;refine XG ?_;clear au aH aV bD;((try (repeat' with_reducible refine And.intro ?_ ?_));(try any_goals (first|refine zm ?_|exact CL|fail)))))
  refine YB (v:=false) (ex:=[(70,_),(72,_),(72,_),(71,_),(70,_)]) dO (Qj hT) (Qj hT) (by simp[Qe]) aP av rfl ?_ ?_
  ·(have au:=@Ya;refine XG ?_;clear au;((try (repeat' with_reducible refine And.intro ?_ ?_));(try any_goals (first|refine zm ?_|exact CL|fail))))
  (have au:=@aM;have aH:=@ka;refine XG ?_;clear au aH;((try (repeat' with_reducible refine And.intro ?_ ?_));(try any_goals (first|refine zm ?_|exact CL|fail))))
  (refine Qa (fun h3=>?_) (fun h3=>?_)<;>try exact h3.elim)
  (have au:=@aM;refine XG ?_;clear au;((try (repeat' with_reducible refine And.intro ?_ ?_));(try any_goals (first|refine zm ?_|exact CL|fail))))
  have H3:HL ([(72,.cells [.int .i64 p0,.int .i64 p1,.int .i64 p2,.int .i64 p3,.int .i64 p4,.int .i64 g0,.int .i64 g1,.int .i64 g2,.int .i64 g3,.int .i64 g4]),(71,.cells E),(70,.aC (ia V) true)]++Qm S T) 73:=(H2 V true).more (by simp[bJ,ai,Qe])
  refine Yk (fun j:Nat=>j≤i) (fun j=>⟨[(0,.ptr 67 0),(7,.ptr 71 0),(8,.isl F.length (ef F)),(9,.mp 70),(11,.ptr 72 0),(29,.isl F.length (ef F)),(30,.int .i64 F.length),(31,.int .i64 i),(46,.isl i ((ef F).take (i * 10))),(47,.int .i64 i),(48,.int .i64 j)],[(72,.cells [.int .i64 p0,.int .i64 p1,.int .i64 p2,.int .i64 p3,.int .i64 p4,.int .i64 g0,.int .i64 g1,.int .i64 g2,.int .i64 g3,.int .i64 g4]),(71,.cells E),(70,.aC (ia V) true)]++Qm S T,73⟩) (fun j=>i - j) n8.mixed (List.range 70) a7
   ⟨0,Nat.zero_le _,?_⟩ fun j hj=>?_
  ·refine To.eg (p:=List.range 70) (ex0:=[(70,_),(72,_),(72,_),(71,_),(70,_)]) H3 hT (fun b hb=>by have:=List.mem_range.1 hb;omega) av av (fun b h1 h2=>?_) ?_
   ·rcases (by omega:b=70∨b=71∨b=72) with rfl|rfl|rfl<;>rfl
   ·simp[Qy,Qe,ai,look,aE,az,mD,kx,D9,Bg]
  (refine XG ?_;((try (repeat' with_reducible refine And.intro ?_ ?_));(try any_goals (first|refine zm ?_|exact CL|fail))))
  (refine Qa (fun h4=>?_) (fun h4=>?_)<;>try exact h4.elim)
  ·have YH:j < i:=by omega
   have DD:=Ic j YH
   have bN:=EL j YH
   have hjg:F[j]'af=F.getD j ⟨ff,0,0,0,0,0⟩:=by simp[List.getD,List.getElem?_eq_getElem (show j < F.length by omega)]
   rw[hjg]at bN
   generalize F.getD j ⟨ff,0,0,0,0,0⟩=f at *
   obtain ⟨⟨q0,q1,q2,q3,q4⟩,k0,k1,k2,k3,k4⟩:=f
   have O2:=@Dg c false ⟨q0,q1,q2,q3,q4⟩ ⟨p0,p1,p2,p3,p4⟩
   unfold Fl.enc Wf at DD
   unfold Mp.enc at O2
   dsimp only at DD O2 bN
   (have au:=@aM;have aH:=@EH;have aV:=@DD;refine XG ?_;clear au aH aV;((try (repeat' with_reducible refine And.intro ?_ ?_));(try any_goals (first|refine zm ?_|exact CL|fail))))
   ((first|apply Xt|apply Xl|apply Xd|apply Xb)<;>(first|exact O2|(have au:=@aM;refine XG ?_;clear au;first|exact rfl|exact True.intro|((try (repeat' with_reducible refine And.intro ?_ ?_));(try any_goals (first|refine zm ?_|exact CL|fail))))))
   (refine Qa (fun h5=>?_) (fun h5=>?_)<;>try exact h5.elim)
   ·exfalso;apply bN;simp_all
   (refine XG ?_;((try (repeat' with_reducible refine And.intro ?_ ?_));(try any_goals (first|refine zm ?_|exact CL|fail))))
   refine ⟨j + 1,by omega,?_,by omega⟩
   refine To.eg (p:=List.range 70) (ex0:=[(73,_),(73,_),(72,_),(71,_),(70,_)]) H3 hT (fun b hb=>by have:=List.mem_range.1 hb;omega) av av (fun b h1 h2=>?_) ?_
   ·rcases (by omega:b=70∨b=71∨b=72) with rfl|rfl|rfl<;>rfl
   ·simp[Qy,Qe,ai,look,aE,az,mD,kx,D9,Bg]
  ·obtain rfl:j=i:=by omega
   (refine XG ?_;((try (repeat' with_reducible refine And.intro ?_ ?_));(try any_goals (first|refine zm ?_|exact CL|fail))))
   refine ⟨(j + 1,V),⟨by dsimp only;omega,O1⟩,?_,by dsimp only;omega⟩
   refine To.eg (p:=List.range 70) (ex0:=[(72,_),(71,_),(70,_)]) (H2 V true) hT (fun b hb=>by have:=List.mem_range.1 hb;omega) av av (fun b h1 h2=>?_) ?_
   ·rcases (by omega:b=70∨b=71) with rfl|rfl<;>rfl
   ·simp[Qy,Qe,ai,look,aE,az,mD,kx]
 ·obtain rfl:i=F.length:=by omega
  rw[List.take_length]at hU
  have YI:=hG.maps U hU
  rw[hM]at YI
  have hUn:=hU.nd
  (have au:=@aM;have aH:=@e2;have aV:=@e3;refine XG ?_;clear au aH aV;((try (repeat' with_reducible refine And.intro ?_ ?_));(try any_goals (first|refine zm ?_|exact CL|fail))))
  have H4:∀ U,HL ([(70,.aC (ia U) false)]++Qm S T) 71:=fun U=>(Qj hT).more (show bJ 71 (.aC (ia U) false) from fun q hq=>by
   obtain ⟨m,_,rfl⟩:=List.mem_map.1 hq
   simp[Qe,ai,Mp.enc])
  refine Yk (σ:=Nat × List Mp) (fun x=>x.1≤M.length∧x.2.Nodup∧∀ m,m ∈ x.2 ↔ m ∈ M.drop x.1) (fun x=>⟨[(9,.mp 70),(74,.isl M.length (cq M)),(75,.int .i64 M.length),(76,.int .i64 x.1)],[(70,.aC (ia x.2) false)]++Qm S T,71⟩) (fun x=>M.length - x.1) n8.mixed (List.range 70) a7
   ⟨(0,U),⟨Nat.zero_le _,hUn,fun m=>by rw[List.drop_zero];exact YI m⟩,?_⟩ fun x hx=>?_
  ·refine (To.V1 (b:=70) (kvs:=ia U) rfl).trans ?_
   refine To.eg (p:=List.range 70) (ex0:=[(70,_),(71,_),(70,_)]) (H4 U) hT (fun b hb=>by have:=List.mem_range.1 hb;omega) av av (fun b h1 h2=>?_) ?_
   ·obtain rfl:b=70:=by omega
    rfl
   ·simp[Qy,Qe,ai,look,aE,az,sA,Gy]
  obtain ⟨j,W⟩:=x
  obtain ⟨hj,Gx,EM⟩:=hx
  dsimp only at hj Gx EM ⊢
  (refine XG ?_;((try (repeat' with_reducible refine And.intro ?_ ?_));(try any_goals (first|refine zm ?_|exact CL|fail))))
  (refine Qa (fun h6=>?_) (fun h6=>?_)<;>try exact h6.elim)
  ·have YJ:j < M.length:=by omega
   have a8:=vK M j YJ
   have gJ:=List.drop_eq_getElem_cons YJ
   have aI:M[j] ∈ W:=(EM _).2 (by rw[gJ];exact List.mem_cons_self)
   have dT:=Xti W M[j]
   rw[decide_eq_true aI]at dT
   obtain ⟨V,oR,hVn,hVm⟩:=Xru Gx M[j]
   have hV2:∀ m,m ∈ V ↔ m ∈ M.drop (j + 1):=fun m=>by
    have O3:(M[j]::M.drop (j + 1)).Nodup:=by rw[← gJ];exact oG.sublist (List.drop_sublist ..)
    rw[hVm,EM,gJ,List.mem_cons]
    constructor
    ·rintro ⟨h1|h1,h2⟩
     ·exact (h2 h1).elim
     ·exact h1
    ·intro h1
     exact ⟨.inr h1,fun e=>(List.nodup_cons.1 O3).1 (e ▸ h1)⟩
   have dK:=YD W
   generalize M[j]=m at *
   obtain ⟨p0,p1,p2,p3,p4⟩:=m
   unfold Mp.enc at a8 dT oR
   dsimp only at a8 dT oR
   have dI:Kj true [.int .i64,.int .i64,.int .i64,.int .i64,.int .i64] (.agg [.int .i64 p0,.int .i64 p1,.int .i64 p2,.int .i64 p3,.int .i64 p4]):=rfl
   (have au:=@aM;have aH:=@pN;have aV:=@a8;refine XG ?_;clear au aH aV;((try (repeat' with_reducible refine And.intro ?_ ?_));(try any_goals (first|refine zm ?_|exact CL|fail))))
   ((first|refine nv y9 ?_|refine Ud y9 ?_);(have au:=@dK;have aH:=@dI;have aV:=@dT;have bD:=@aM;refine XG ?_;clear au aH aV bD;((try (repeat' with_reducible refine And.intro ?_ ?_));(try any_goals (first|refine zm ?_|exact CL|fail)))))
   (refine Qa (fun h7=>?_) (fun h7=>?_)<;>try exact h7.elim)
   (refine XG ?_;((try (repeat' with_reducible refine And.intro ?_ ?_));(try any_goals (first|refine zm ?_|exact CL|fail))))
   ((first|refine F2 y9 ?_|refine F3 y9 ?_);(have au:=@dK;have aH:=@dI;have aV:=@oR;have bD:=@aM;refine XG ?_;clear au aH aV bD;((try (repeat' with_reducible refine And.intro ?_ ?_));(try any_goals (first|refine zm ?_|exact CL|fail)))))
   refine ⟨(j + 1,V),⟨by dsimp only;omega,hVn,hV2⟩,?_,by dsimp only;omega⟩
   refine To.eg (p:=List.range 70) (ex0:=[(70,_),(71,_),(71,_),(70,_)]) (H4 V) hT (fun b hb=>by have:=List.mem_range.1 hb;omega) av av (fun b h1 h2=>?_) ?_
   ·obtain rfl:b=70:=by omega
    rfl
   ·simp[Qy,Qe,ai,look,aE,az,sA,Gy]
  ·obtain rfl:j=M.length:=by omega
   rw[List.drop_length]at EM
   obtain rfl:W=[]:=List.eq_nil_iff_forall_not_mem.2 fun m hm=>by have:=(EM m).1 hm;cases this
   have hz:ia []=[]:=rfl
   (have au:=@hz;refine XG ?_;clear au;((try (repeat' with_reducible refine And.intro ?_ ?_));(try any_goals (first|refine zm ?_|exact CL|fail))))
   exact ⟨(),To.drop (ex:=[(70,_)]) (Qj hT) av av (by simp[Qy,Qe,look,aE])⟩
theorem Xgm (gl:Nat→AV) (h0:gl 0=.xp (Qp Xo) 0) (b:Bool) (l:List Ac) (hl:tn l) (hlen:l.length≤140737488351232):PS Tryz.prog gl 16 [.bool b,.isl l.length (hZ l)] (.bool true):=by
 obtain ⟨T,D,hW,hP,gM⟩:=Xmv gl h0 b l hl hlen 51 fun i hi T D hW=>Xze gl _ T D (u4 b l (i + 1)).toNI hW _ _
 have n8:FT Tryz.prog 16 Tryz.f16 (aQ Tryz.prog Tryz.f16) [.t 4]:=.of Tryz.func16
 refine n8.ps (of_decide_eq_true rfl) (by simp[Qe]) fun c hN hg=>?_
 subst hg
 conv in aQ _ _=>cbv
 have kK:=fun n=>yM n l
 (refine XG ?_;((try (repeat' with_reducible refine And.intro ?_ ?_));(try any_goals (first|refine zm ?_|exact CL|fail))))
 refine DR gM (Qj hW.wf) ?_ av ?_
 ·(have au:=@kK;refine XG ?_;clear au;((try (repeat' with_reducible refine And.intro ?_ ?_));(try any_goals (first|refine zm ?_|exact CL|fail))))
 (refine XG ?_;((try (repeat' with_reducible refine And.intro ?_ ?_));(try any_goals (first|refine zm ?_|exact CL|fail))))
end Go.Proofs.YtogckmommodmhaaGreatDoor
