import Derived.Test.YtogckmommodmhaaGreatDoorZt6
import Derived.Test.YtogckmommodmhaaGreatDoorZt14
import Derived.Test.YtogckmommodmhaaGreatDoorZt5
import Derived.Test.YtogckmommodmhaaGreatDoorZt16
import Derived.Test.YtogckmommodmhaaGreatDoorZtMi
import Derived.Test.YtogckmommodmhaaGreatDoorRows
import Derived.KernelRfl
set_option maxHeartbeats 16000000
namespace Go.Proofs.YtogckmommodmhaaGreatDoor
open Go.RowKit
set_option linter.all false
set_option linter.unusedSimpArgs false
set_option maxRecDepth 100000
def XZ (p:List Nat) (ρ:List (Nat × Nat)) (n:Nat):Bool:=ρ.all (fun q=>!p.contains q.1) && p.all (fun b=>decide (b < n))
theorem X0 {p:List Nat}:∀ {ρ:List (Nat × Nat)},ρ.all (fun q=>!p.contains q.1)=true→∀ b ∈ p,rl ρ b=b
 | [],_,_,_=>rfl
 | (i,j)::l,h,b,hb=>by
  simp only[List.all_cons,Bool.and_eq_true,Bool.not_eq_true']at h
  have hi:(i == b)=false:=by
   cases e:i == b with
   | false=>rfl
   | true =>
    have:i=b:=by simpa using e
    subst this
    have:=h.1
    rw[List.contains_iff_mem.2 hb]at this;cases this
  show (bif i == b then j else rl l b)=b
  rw[hi];exact X0 h.2 b hb
theorem To.sub {p:List Nat} {s s':St} {ρ:List (Nat × Nat)} (hp:XZ p ρ s'.n=true) (h:Sub (rl ρ) s s'):To p s s':=fun c g a w hg hR=>h.to hR fun q hq=>by
 unfold XZ at hp
 rw[Bool.and_eq_true]at hp
 exact ⟨X0 hp.1 _ (hg q hq),of_decide_eq_true (List.all_eq_true.1 hp.2 _ (hg q hq))⟩
theorem X1:FT Tryz.prog 25 Tryz.f25 (aO Tryz.prog Tryz.f25) [.t 4,.t 5]:=.of Tryz.func25
theorem Xdh:jh Tryz.prog 100 27=some [.int .i64,.str,.bool,.str]:=by kernel_rfl
theorem Ybo {c:Cx} {ne:Bool} (r:Rp):jN Tryz.prog c (.cA ne 27) [.agg r.enc,.agg r.enc] (.bool (ne != true)) :=
 Cr Xdh (by kernel_rfl) (by kernel_rfl) rfl rfl au
theorem X2:FT Tryz.prog 15 Tryz.f15 (aO Tryz.prog Tryz.f15) [.t 6]:=.of Tryz.func15
def jr (l:List Rp):List AV:=l.flatMap Rp.enc
theorem O3 (l:List Rp):(jr l).length=l.length * 4:=by
 induction l with
 | nil=>rfl
 | cons f l ih=>simp only[jr,List.flatMap_cons,List.length_append]at ih ⊢;rw[ih];simp[Rp.enc];omega
theorem BH (n:Nat) (l:List Rp):ai n (jr l):=by
 rw[Xj]
 intro v hv
 obtain ⟨f,_,hf⟩:=List.mem_flatMap.1 hv
 simp[Rp.enc]at hf
 rcases hf with rfl|rfl|rfl|rfl<;>simp[Qe]
theorem Fe (ρ:Nat→Nat) (l:List Rp):ay ρ (jr l)=jr l:=by
 rw[Yf]
 exact (List.map_congr_left fun v hv=>Ks (Xj.1 (BH 0 l) v hv)).trans (List.map_id _)
theorem Xsz (l:List Rp) (f:Rp):jr l++f.enc=jr (l++[f]):=by simp[jr]
theorem X3 (l:List Rp) (k:Nat) (h:k < l.length):((jr l).drop (k * 4)).take 4=l[k].enc:=by
 induction l generalizing k with
 | nil=>simp at h
 | cons a l ih =>
  cases k with
  | zero=>simp[jr,Rp.enc]
  | succ k =>
   have:=ih k (by simpa using h)
   rw[show (k + 1) * 4=4 + k * 4 by omega,← List.drop_drop]
   simpa [jr,Rp.enc] using this
noncomputable def Kf (b:Bool) (l:List Ac) (n:Nat):List Rp:=(List.range n).map (Wa b l)
theorem Xjo (b:Bool) (l:List Ac) (n:Nat):Kf b l (n + 1)=Kf b l n++[Wa b l n]:=by simp[Kf,List.range_succ]
theorem BI (b:Bool) (l:List Ac) (n:Nat):(Kf b l n).length=n:=by simp[Kf]
theorem X4 (b:Bool) (l:List Ac) (k:Nat):∀ i,i≤k→Xq b (l.take k) i=Xq b l i
 | 0,_=>rfl
 | i + 1,h=>by
  have ih:=X4 b l k i af
  have e:(l.take k).getD i fU=l.getD i fU:=by simp only[List.getD,List.getElem?_take,if_pos (show i < k by omega)]
  show ((Xq b (l.take k) i).step _).2=((Xq b l i).step _).2
  rw[ih,e]
theorem Xl1 (b:Bool) (l:List Ac) (k i:Nat) (h:i < k):Wa b (l.take k) i=Wa b l i:=by
 have e:(l.take k).getD i fU=l.getD i fU:=by simp only[List.getD,List.getElem?_take,if_pos h]
 unfold Wa
 rw[X4 b l k i af,e]
theorem Xjr (b:Bool) (l:List Ac) (k:Nat):Kf b (l.take k) k=Kf b l k:=by
 unfold Kf
 exact List.map_congr_left fun i hi=>Xl1 b l k i (List.mem_range.1 hi)
theorem Xv0 (l:List Ac) (k:Nat):(cT l).take (k * 4)=cT (l.take k):=by
 induction l generalizing k with
 | nil=>simp[cT]
 | cons a l ih =>
  cases k with
  | zero=>simp[cT]
  | succ k =>
   have:=ih k
   rw[show (k + 1) * 4=4 + k * 4 by omega,List.take_add]
   simpa [cT,Ac.enc] using this
theorem X5 (gl:Nat→AV) (h0:gl 0=.xp (Qp Xi) 0) (b:Bool) (l:List Ac) (hl:mh l) (hlen:l.length≤300) :
  GS Tryz.prog gl 25 [.bool b,.isl l.length (cT l)] [] 0 (.aX [.sl 4 0 0 l.length l.length,.int .i64 0]) [(0,.cells (jr (Kf b l l.length)))] 1:=by
 obtain ⟨Ts,sA,wz,rP⟩:=Ib gl h0 b l hl
 have eN:∀ i,(Ts i).wf:=fun i=>by
  obtain ⟨D,hD⟩:=wz i
  exact hD.1.wf
 have bN:=ER gl b
 rw[← sA]at bN
 refine X1.On (of_decide_eq_true rfl) fun c aY hg=>?_
 subst hg
 conv in aO _ _=>cbv
 have aV:=Bw l
 have fH:=fun n=>Wl n l
 have rU:=fun ρ:Nat→Nat=>show ay ρ (cT l)=cT l by rw[Yf];exact (List.map_congr_left fun v hv=>Ks (Xj.1 (Wl 0 l) v hv)).trans (List.map_id _)
 refine Qf ?_
 (refine Qa (fun h1=>?_) (fun h1=>?_)<;>try exact h1.elim)
 ·omega
 refine Qf ?_
 refine uE bN (Qj (eN 0)) ?_ au ?_
 ·exact Qs
 dsimp only[List.nil_append]
 rw[H9]
 have aH:=fun (i n j:Nat) (hj:70≤j)=>Ya (S:=Xq b l i) (eN i) n j hj
 have l9:=fun n j hj=>Ya (S:=NS.new b) (eN 0) n j hj
 refine Qf ?_
 refine xA 7 4 rfl (by exact Qr @l9) ?_
 unfold St.named
 refine Yi (fun i:Nat=>i≤l.length) (fun i=>⟨[(1,.isl l.length (cT l)),(6,.ptr 67 0),(7,.sl 4 70 0 i i),(15,.isl l.length (cT l)),(16,.int .i64 l.length),(17,.int .i64 i)],[(70,.cells (jr (Kf b l i)))]++Qm (Xq b l i) (Ts i),71⟩) (fun i=>l.length - i) X1.mixed (List.range 0) aY
  ⟨0,Nat.zero_le _,To.c6 (by exact Qs) fun b=>rfl⟩ fun i hi=>?_
 refine Qf ?_
 (refine Qa (fun h2=>?_) (fun h2=>?_)<;>try exact h2.elim)
 ·have mS:i < l.length:=by omega
  have fy:=Ic l mS
  have hd:=rP i
  have hT:=eN i
  have bj:=eN (i + 1)
  have ec:jr (Kf b l i)++(Wa b l i).enc=jr (Kf b l (i + 1)):=by rw[Xsz,Xjo]
  have kH:(jr (Kf b l i)).length=i * 4:=by rw[O3,BI]
  have oW:=fun n=>BH n (Kf b l i)
  have Bv:=fun ρ=>Fe ρ (Kf b l i)
  have Ix:=fun n=>BH n (Kf b l (i + 1))
  have Iy:=fun ρ=>Fe ρ (Kf b l (i + 1))
  generalize jr (Kf b l i)=E at *
  obtain ⟨F,hF⟩:∃ F,jr (Kf b l (i + 1))=F:=⟨_,rfl⟩
  simp only[hF]at ec Ix Iy
  generalize l.getD i fU=a at *
  obtain ⟨a1,a2,a3,a4⟩:=a
  have mY:∃ r1 r2 r3 r4,Wa b l i=⟨r1,r2,r3,r4⟩:=⟨_,_,_,_,rfl⟩
  obtain ⟨r1,r2,r3,r4,mY⟩:=mY
  rw[mY]at hd ec
  dsimp only[Ac.enc,Rp.enc]at fy hd ec
  have hHs:=fun n j hj=>Ya (S:=Xq b l i) hT n j hj
  refine Qh (An @aV (An @fy @hHs)) ?_
  refine Uu (v:=false) (pp:=List.range 0) (ex:=[(71,_),(71,_),(70,_)]) (s3:=⟨[(1,.isl l.length (cT l)),(6,.ptr 67 0),(15,.isl l.length (cT l)),(16,.int .i64 l.length),(17,.int .i64 i),(21,.sl 4 70 0 i i),(24,.agg [.int .i64 r1,.str r2,.bool r3,.str r4])],[(70,.cells E)]++Qm (Xq b l (i + 1)) (Ts (i + 1)),71⟩) aY hd (Qj hT) (Qj bj) (by simp[Qe,ai]) aR au au rfl ?_ ?_ ?_
  ·exact Qr @Xw
  ·unfold Zq
   refine To.iq bj ((Qj bj).more (by exact oW 71)) aR aR au au au (fun b h1 h2=>?_) ?_
   ·obtain rfl:b=70:=by omega
    show Bk.cells E=Bk.cells (ay _ E)
    rw[Bv]
   ·simp[Qu,Qe,ai,look,aD,ay,qb,lw,rL,fH,rU]
  have jb:=fun n j hj=>Ya (S:=Xq b l (i + 1)) bj n j hj
  refine Qh @jb ?_
  refine Zm @jb ?_
  refine Zm (An @jb (An @kH @ec)) ?_
  refine ⟨i + 1,by omega,?_,by omega⟩
  rw[hF]
  refine To.jJ (p:=List.range 0) (ex:=[(72,_),(70,.dead),(71,_),(70,_)]) (ex':=[(70,.cells F)]) (fun b=>if b=70 then 72 else b) bj ((Qj bj).more (by exact Ix 71)) aR au au aR (fun b hb=>if_neg af) (fun b h h2=>?_) (fun b b' h1 h2 h3 h4 e=>?_) rfl rfl rfl (fun b h1 h2=>?_) ?_
  ·split<;>omega
  ·omega
  ·obtain rfl:b=70:=by omega
   show Bk.cells F=Bk.cells (ay _ F)
   rw[Iy]
  ·simp[Qu,Qe,ai,look,aD,ay,fH,rU]
 ·obtain rfl:i=l.length:=by omega
  refine Qf ?_
  have Ix:=fun n=>BH n (Kf b l l.length)
  have Iy:=fun ρ=>Fe ρ (Kf b l l.length)
  refine To.sub (ρ:=[(0,70)]) rfl ?_
  exact Qr (An @Ix @Iy)
theorem Xqp (k:Int) (n:Nat) (hn:n≤100) (hk:-9223372036854775808≤k∧k≤9223372036854775807):∃ m:Nat,m≤n∧(k.tmod ((n:Int) + 1) + n + 1).tmod ((n:Int) + 1)=m:=by
 have hb:=AO k ((n:Int) + 1) af
 have h0:0≤k.tmod ((n:Int) + 1) + n + 1:=by omega
 have e:=Int.tmod_eq_emod_of_nonneg (b:=(n:Int) + 1) h0
 have h1:=Int.emod_nonneg (k.tmod ((n:Int) + 1) + n + 1) (b:=(n:Int) + 1) af
 have h2:=Int.emod_lt_of_pos (k.tmod ((n:Int) + 1) + n + 1) (b:=(n:Int) + 1) af
 exact ⟨((k.tmod ((n:Int) + 1) + n + 1) % ((n:Int) + 1)).toNat,by omega,by rw[e];omega⟩
theorem X6 (b:Bool) (l:List Ac) {n i:Nat} (h:i < n):(Kf b l n)[i]'(by rw[BI];exact h)=Wa b l i:=by simp[Kf]
theorem Xi6 (gl:Nat→AV) (h0:gl 0=.xp (Qp Xi) 0) (b:Bool) (l:List Ac) (k:Int) (hk:-9223372036854775808≤k∧k≤9223372036854775807) (hl:mh l) (hlen:l.length≤140737488351232):PS Tryz.prog gl 15 [.bool b,.isl l.length (cT l),.int .i64 k] (.bool true):=by
 have wA:=Ia gl h0
 refine X2.ps (of_decide_eq_true rfl) (by simp[Qe]) fun c hN hg=>?_
 subst hg
 conv in aO _ _=>cbv
 have fH:=fun n=>Wl n l
 have wB:=fun ρ:Nat→Nat=>show ay ρ (cT l)=cT l by rw[Yf];exact (List.map_congr_left fun v hv=>Ks (Xj.1 (Wl 0 l) v hv)).trans (List.map_id _)
 have aV:=Bw l
 refine Qf ?_
 refine Zg wA ?_
 (refine Qa (fun h1=>?_) (fun h1=>?_)<;>try exact h1.elim)
 ·refine Qf ?_
  exact KL wA
 have Ff:l.length≤100:=by omega
 obtain ⟨m,hm,kX⟩:=Xqp k l.length Ff hk
 have kc:=AO k ((l.length:Int) + 1) af
 have hru:=X5 c.gl h0 b l hl af
 have hlt:mh (l.take m):=fun a ha=>hl a (List.mem_of_mem_take ha)
 have AM:(l.take m).length=m:=by rw[List.length_take];omega
 have X7:=X5 c.gl h0 b (l.take m) hlt af
 rw[AM,Xjr]at X7
 have vu:=Xv0 l m
 refine Qh @kX ?_
 refine Zm (An @aV @fH) ?_
 have m8:((cT l).drop 0).take (l.length * 4)=cT l:=by rw[List.drop_zero,List.take_of_length_le (by rw[aV];exact Nat.le_refl _)]
 refine nn (p:=[]) (by rw[hN];simp) (To.fC (b:=0) (i:=36) rfl rfl) ?_
 rw[m8]
 have hA:=fun n=>BH n (Kf b l l.length)
 have O4:=fun ρ=>Fe ρ (Kf b l l.length)
 have hB:=fun n=>BH n (Kf b l m)
 have O5:=fun ρ=>Fe ρ (Kf b l m)
 have X8:(jr (Kf b l l.length)).length=l.length * 4:=by rw[O3,BI]
 have oH:(jr (Kf b l m)).length=m * 4:=by rw[O3,BI]
 have O6:(cT (l.take m)).length=m * 4:=by rw[Bw,AM]
 have X9:=fun n=>Wl n (l.take m)
 have gU:=fun ρ:Nat→Nat=>show ay ρ (cT (l.take m))=cT (l.take m) by rw[Yf];exact (List.map_congr_left fun v hv=>Ks (Xj.1 (Wl 0 (l.take m)) v hv)).trans (List.map_id _)
 refine tO (ip []) hru (An @aV (An @fH (An @vu (An @wB (An @hA (An @O4 @Nat.sub_zero)))))) ?_
 refine Zm (An @O6 @X9) ?_
 have Gj:((cT (l.take m)).drop 0).take (m * 4)=cT (l.take m):=by rw[List.drop_zero,List.take_of_length_le (by rw[O6];exact Nat.le_refl _)]
 refine nn (p:=[]) (by rw[hN];simp) (To.fC (b:=2) (i:=45) rfl rfl) ?_
 rw[Gj]
 refine tO (ip []) X7 (An @O6 (An @X9 (An @gU (An @hB @O5)))) ?_
 (refine Qa (fun h2=>?_) (fun h2=>?_)<;>try exact h2.elim)
 refine Qf ?_
 refine Xr (fun i:Nat=>i≤m) (fun i=>⟨[(2,.int .i64 m),(7,.sl 4 0 0 l.length l.length),(9,.sl 4 1 0 m m),(11,.int .i64 i)],[(0,.cells (jr (Kf b l l.length))),(1,.cells (jr (Kf b l m)))],2⟩) (fun i=>m - i) X2.mixed hN
  ⟨0,by omega,[(0,1),(1,3)],by exact Qr (An @hA (An @hB (An @O4 @O5)))⟩ fun i hi=>?_
 refine Qf ?_
 (refine Qa (fun h3=>?_) (fun h3=>?_)<;>try exact h3.elim)
 ·have Fg:=X3 (Kf b l l.length) i (by rw[BI];omega)
  have eV:=X3 (Kf b l m) i (by rw[BI];omega)
  rw[X6 b l (show i < l.length by omega)]at Fg
  rw[X6 b l (show i < m by omega)]at eV
  have heq:=@Ybo c true (Wa b l i)
  generalize Wa b l i=r at *
  obtain ⟨r1,r2,r3,r4⟩:=r
  unfold Rp.enc at Fg eV heq
  dsimp only at Fg eV heq
  refine Qh (An @X8 (An @oH (An @Fg @eV))) ?_
  refine Qy heq (An @X8 (An @oH (An @Fg @eV))) ?_
  (refine Qa (fun h4=>?_) (fun h4=>?_)<;>try exact h4.elim)
  refine Qf ?_
  refine ⟨i + 1,by omega,⟨[],?_⟩,by omega⟩
  exact Qr (An @hA (An @hB (An @O4 @O5)))
 ·obtain rfl:i=m:=by omega
  exact Qs
end Go.Proofs.YtogckmommodmhaaGreatDoor
