import Derived.Test.YtogckmommodmhaaGreatDoorZx20
import Derived.Test.YtogckmommodmhaaGreatDoorZx19
import Derived.Test.YtogckmommodmhaaGreatDoorCards
import Derived.Test.YtogckmommodmhaaGreatDoorTie
namespace Go.Proofs.YtogckmommodmhaaGreatDoor
open Go.RowKit
open Go.RowKit Go.ChangeShapes Go.WideShapes Go.Deep
set_option linter.all false
set_option maxHeartbeats 32000000
set_option maxRecDepth 100000
variable (m:Mp)
def Xkr:Ys m m=true:=by unfold Ys;simp
def Qmu {m:Mp}:∀ (l:List Mp) (i:Nat),l.Pairwise (fun x y=>Ys x y=false)->l.findIdx? (fun x=>decide (m=x))=some i->l.filter (fun o=>!decide (o=m))=l.eraseIdx i
 | [],_,_,h=>by simp at h
 | x::l,i,hp,h=>by
  rw[List.findIdx?_cons]at h;obtain ⟨h1,h2⟩:=List.pairwise_cons.1 hp;by_cases hx:m=x
  ·subst hx;simp only[decide_true,if_true,Option.some.injEq]at h;subst h;rw[List.eraseIdx_cons_zero,List.filter_cons_of_neg av,List.filter_eq_self];intro o ho;have h3:=h1 o ho;by_cases e:o=m
   ·subst e;rw[Xkr]at h3;cases h3
   ·simp[e]
  ·simp only[hx,decide_false,Bool.false_eq_true,if_false]at h;cases hj:l.findIdx? (fun x=>decide (m=x)) with
   | none=>rw[hj]at h;simp at h
   | some j =>
    rw[hj]at h;simp only[Option.map_some,Option.some.injEq]at h;subst h;have JI:¬ x=m:=fun e=>hx e.symm;rw[List.eraseIdx_cons_succ,List.filter_cons_of_pos (by simp[JI]),Qmu l j h2 hj]
def Xpc (gl:Nat->AV)(t:Tb)(ht:t.ok)(hh:Hid (∀ s,s<8->-9223372036854775808<=t.aT s/\t.aT s<=9223372036854775807))(m:Mp)(eG:-9223372036854775808<=m.port/\m.port<=9223372036854775807):PS Tryz.prog gl 118 [.agg t.enc,.agg m.enc] (Ud (t.cls m)):=by
 by_cases hb:Zr t=false
 ·have e:t.cls m=(t,false,2):=am hb;rw[e];exact Xhg gl t ht hh m hb
 have hg:Zr t=true:=by
  cases h:Zr t
  ·exact (hb h).elim
  ·rfl
 have ep:=(vQ t).1 hg
 have e:t.cls m=match t.maps.findIdx? (fun x=>decide (m=x)) with
  | none=>(t,false,7)
  | some i=>if (t.maps.eraseIdx i).any (Jq m)=true then (t.del i,false,0) else ((t.del i).bV m,true,0):=aa hb
 have bl:mU t.maps m t.maps.length=t.maps.any fun o=>decide (o=m):=by unfold mU;rw[List.take_length]
 have jE:nL t.maps m t.maps.length=t.maps.filter fun o=>!decide (o=m):=by unfold nL;rw[List.take_length]
 cases hi:t.maps.findIdx? (fun x=>decide (m=x)) with
 | none =>
  have hn:mU t.maps m t.maps.length=false:=by
   rw[bl,List.any_eq_false];intro o ho;have:=List.findIdx?_eq_none_iff.1 hi o ho;simp only[decide_eq_false_iff_not]at this;simp only[decide_eq_true_eq];exact fun q=>this q.symm
  rw[hi]at e;refine Qsu gl t ht hh ep m eG _ rfl _ (by rw[Aw];trivial) (Lib.hid fun _=>by rw[e]) (Lib.hid fun h=>?_) (Lib.hid fun h=>?_)
  ·rw[hn]at h;cases h
  ·rw[hn]at h;cases h
 | some i =>
  obtain ⟨mR,xt⟩:=QC hi;have hn:mU t.maps m t.maps.length=true:=by
   rw[bl,List.any_eq_true];exact ⟨_,List.getElem_mem mR,by simp[xt]⟩
  have hL:nL t.maps m t.maps.length=t.maps.eraseIdx i:=by rw[jE];exact Qmu _ _ (Kb.1 ep).apart hi
  have fg:(t.maps.eraseIdx i).any (Jq m)=true ↔ 0<(t.maps.eraseIdx i).countP (Jq m):=by rw[List.countP_pos_iff,List.any_eq_true]
  rw[hi]at e;dsimp only at e;refine Qsu gl t ht hh ep m eG _ hL _ (by rw[Aw];trivial) (Lib.hid fun h=>?_) (Lib.hid fun _ h=>?_) (Lib.hid fun _ h=>?_)
  ·rw[hn]at h;cases h
  ·rw[e,am (fg.2 h)];rfl
  ·rw[e,aa (fun q=>h (fg.1 q))];rfl
def Ygu {t:Tb}(ht:t.wf)(m:Mp):(t.cls m).1.wf/\(t.cls m).1.maps.length<=t.maps.length:=by
 unfold Tb.cls;split
 ·exact ⟨ht,Nat.le_refl _⟩
 split
 ·exact ⟨ht,Nat.le_refl _⟩
 rename_i i hi;have hl:(t.maps.eraseIdx i).length<=t.maps.length:=List.Sublist.length_le (List.eraseIdx_sublist _ _);split
 ·exact ⟨⟨ht.ai,ht.home⟩,hl⟩
 ·have hp:=aq.pB t.ai ht.ai m.s m.a (Xd m.port);unfold Tb.bV;dsimp only;split
  ·exact ⟨⟨hp,by show (t.home.set _ _).length=8;rw[List.length_set];exact ht.home⟩,hl⟩
  ·exact ⟨⟨hp,ht.home⟩,hl⟩
theorem Mp.nm (n:Nat):ah n m.enc=True:=by simp[Mp.enc,ah,Qe]
theorem Mp.co (ρ:Nat->Nat):ay ρ m.enc=m.enc:=by simp[Mp.enc,ay,aB]
attribute [go_sem] Mp.nm Mp.co
end Go.Proofs.YtogckmommodmhaaGreatDoor
namespace Go.Proofs.YtogckmommodmhaaGreatDoor
open List (length_take nil_append getElem_mem take_length length_map take_of_length_le any_nil mem_map append_assoc mem_range)
open Go.RowKit
set_option linter.all false
set_option maxHeartbeats 32000000
set_option maxRecDepth 100000
variable {S:NS}(gl:Nat->AV)(l:List Fl)(k:Nat)
def NS.Ti (h:S.tb.wf)(v f i:Nat):(S.cR f i).set 33 (.int .i64 v)=({ S with now:=v }:NS).cR f i:=NS.gC h 3 _
def Xrc (b:Nat)(h:b<l.length):(bJ l).getD (b*10+9) .any=.int .i64 l[b].due/\((bJ l).drop (b*10)).take 5=l[b].map.enc:=by
 have hc:=Du l b h;constructor
 ·have:(((bJ l).drop (b * 10)).take 10).getD 9 .any=.int .i64 l[b].due:=by rw[hc];rfl
  rw[<- this];simp[List.getD,List.getElem?_take,List.getElem?_drop]
 ·have e:((bJ l).drop (b * 10)).take 5=(((bJ l).drop (b * 10)).take 10).take 5:=by rw[List.take_take];rfl
  rw[e,hc];rfl
def Xe4 (l:List Int)(b:Nat)(h:b<l.length):(Ql l).getD b .any=.int .i64 l[b]:=by
 simp[Ql,List.getD,h]
def Xth (h:k<=l.length):(bJ l).take (k*10)=bJ (l.take k):=by
 conv=>lhs;rw[<- List.take_append_drop k l]
 unfold bJ;rw[List.flatMap_append];exact List.take_left' (by have:=rO (l.take k);unfold bJ at this;rw[this,length_take];omega)
def Xs6 (h:k<=l.length):(bJ l).drop (k*10)=bJ (l.drop k):=by
 conv=>lhs;rw[<- List.take_append_drop k l]
 unfold bJ;rw[List.flatMap_append];exact List.drop_left' (by have:=rO (l.take k);unfold bJ at this;rw[this,length_take];omega)
def Xmh (S:NS){b:Nat}(h:b<S.fl.length):S.aZ[b]?=some ⟨S.fl[b].1,S.fl[b].2.due.toNat⟩:=by
 unfold NS.aZ;rw[List.getElem?_map,List.getElem?_eq_getElem h];rfl
def NS.yC (h:S.tb.wf){t:Tb}(ht:t.wf)(f i:Nat):Ym (S.cR f i) 0 t.enc=({ S with tb:=t }:NS).cR f i:=by
 unfold Ym NS.cR;rw[List.take_zero,nil_append,Nat.zero_add,Tb.au ht,<- Tb.au h,List.drop_left];rfl
structure Tj (p:Prop):Prop where
 o:p
def Yjr {X G:Prop}(m:Tj X->G)(h:X):G:=m ⟨h⟩
def Xyh (S:NS)(hS:NI S)(m9:S.told<=90000)(d:Int)(hd:¬ (d<1\/549755813888-S.now<d)) :
  GD Tryz.prog gl 68 [.ptr 0 0,.int .i64 d] (Xn S) 3 [0] (.agg (S.tick d).1.enc) (Xn (S.tick d).2):=by
 have dA:FT Tryz.prog 68 Tryz.f68 (aG Tryz.prog Tryz.f68) [.cell 4 (.ag 4)]:=.of Tryz.func68;have O6:=hS.now;obtain ⟨dn,rfl⟩:∃ k:Nat,d=k:=⟨d.toNat,by omega⟩
 rw[L6,aa hd];refine dA.gq (ap rfl) (Bq S) av fun c bf hg=>?_;subst hg
 conv in aG _ _=>cbv
 have Sc:=hS.ref;have hw:=hS.wf;obtain ⟨m1,lQ⟩:∃ m1:Nat,m1=min dn 4:=⟨_,rfl⟩
 have tF:∀ d1:Decidable ((4:Int)<(dn:Int)),@ite Int ((4:Int)<(dn:Int)) d1 4 dn=m1:=fun d1=>by split<;>omega
 have Bs:∀ S':NS,ah 4 (S'.cR 1 2):=fun S'=>NS.dI aJ aJ;have eI:=fun (S':NS) ρ=>NS.da (S:=S') (f:=1) (i:=2) ρ;have jB:=fun l=>Kr 4 l;unfold Xn;refine Qa ?_;erw [tF]
 refine Yn (fun i:Nat=>i≤m1) (fun i=>⟨[(0,.ptr 0 0),(1,.int .i64 dn),(4,.ptr 3 0),(20,.int .i64 m1),(21,.int .i64 i)],[(3,.cells [.int .i64 0,.str [],.bool false,.str []]),(0,.cells (({ S with ref:=min 4 (S.ref + i) }:NS).cR 1 2)),(1,.cells (bJ S.aA)),(2,.cells (Ql S.keys))],4⟩) (fun i=>m1 - i) dA.mixed [0] bf
  ⟨0,Nat.zero_le _,To.sub (ρ:=[]) rfl ?_⟩ fun i hi=>?_
 ·have h4:min 4 (S.ref + 0)=S.ref:=by omega
  rw[h4];exact Qi (An @Bs (An @jB (An @eI (An @Xb @Qu))))
 obtain ⟨v,hv⟩:∃ v:Nat,v=min 4 (S.ref+i):=⟨_,rfl⟩
 rw[<- hv];obtain ⟨g1,g2,g3,g4,g5,g6,g7,g8,g9,g10⟩:=({ S with ref:=v }:NS).nU hw 1 2;refine Qa ?_;refine Qc ?_ ?_<;>intro h1
 ·obtain ⟨v2,ec⟩:∃ v2:Nat,v2=min 4 (S.ref + (i + 1)):=⟨_,rfl⟩
  have wG:∀ d1:Decidable ((v:Int)+1<4),@ite Int ((v:Int)+1<4) d1 (v+1) 4=v2:=fun d1=>by split<;>omega
  have tv:(({ S with ref:=v }:NS).cR 1 2).set 35 (.int .i64 v2)=({ S with ref:=v2 }:NS).cR 1 2:=NS.gC (S:={ S with ref:=v }) hw 5 _;refine Qd (An @g1 @g8) ?_;erw [wG];refine Qd (An @g1 (An @g8 @tv)) ?_;refine ⟨i+1,by omega,To.sub (ρ:=[]) rfl ?_,by omega⟩;rw[<- ec];exact Qi (An @Bs (An @jB (An @eI (An @Xb @Qu))))
 obtain rfl:i=m1:=by omega
 have D7:S.later dn={ S with now:=S.now+dn,ref:=v }:=by unfold NS.later;rw[hv,lQ,Int.toNat_natCast]
 have Tl:(({ S with ref:=v }:NS).cR 1 2).set 33 (.int .i64 ((S.now+dn:Nat):Int))=(S.later dn).cR 1 2:=by rw[D7];exact NS.Ti (S:={ S with ref:=v }) hw _ _ _
 have dY:(S.now:Int)+dn=((S.now+dn:Nat):Int):=by omega
 refine Qd (An @g1 (An @g6 (An @dY @Tl))) ?_;refine vB 5 5 rfl (by exact Qp) ?_;unfold St.named;clear tF;have jO:(∀ S':NS,ah 5 (S'.cR 1 2))/\(∀ l,ah 5 (bJ l))/\∀ l,ah 5 (Xj l):=⟨fun _=>NS.dI aJ aJ,fun l=>Kr 5 l,fun l=>Uc 5 l⟩
 have lG:∀ (l:List Ev) ρ,ay ρ (Xj l)=Xj l:=fun l ρ=>Bk.cells.inj (Xer (x:=.cells (Xj l)) (by simp[bX,Uc]))
 refine Yn (fun i:Nat=>i≤(S.ended dn).length∧a7 (S.dU dn i).1.aZ (S.now + (dn:Int).toNat + 1)=(S.ended dn).drop i) (fun i=>⟨[(0,.ptr 0 0),(1,.int .i64 dn),(4,.ptr 3 0),(5,.sl 5 4 0 (S.dU dn i).2.length (S.dU dn i).2.length)],[(3,.cells [.int .i64 0,.str [],.bool false,.str []]),(0,.cells ((S.dU dn i).1.cR 1 2)),(1,.cells (bJ (S.dU dn i).1.aA)),(2,.cells (Ql (S.dU dn i).1.keys)),(4,.cells (Xj (S.dU dn i).2))],5⟩) (fun i=>(S.ended dn).length - i) dA.mixed [0] bf
  ⟨0,⟨Nat.zero_le _,Xu0 S dn⟩,To.sub (ρ:=[]) rfl ?_⟩ fun i hi=>?_
 ·rw[show S.dU dn 0=(S.later dn,[]) from rfl]
  (have aQ:=@jO;have bu:=@eI;have bO:=@lG;have cy:=@Xb;have dc:=@Qu;refine XG ?_;clear aQ bu bO cy dc;((try with_reducible and_intros);all_goals try first|refine zm ?_|exact CL))<;>rfl
 obtain ⟨mR,ax⟩:=hi;have hE:=Hk hS hd i;have cj:=fun (b:Nat) (hb:b<(S.dU dn i).1.fl.length) (t:Tm) (ht:(S.dU dn i).1.aZ[b]?=some t) h1 h2=>Xwk hS hd ax hb ht h1 h2;have pW:=Xyi ax;have iS:=fun q hq=>Ybc hS hd i (q:=q) hq;have hN:S.now+(dn:Int).toNat=(S.dU dn i).1.now:=hE.now.symm;rw[hN]at cj pW;generalize S.dU dn i=y at *
 obtain ⟨X,es⟩:=y;dsimp only at hE cj pW iS hN ⊢;clear ax;have yD:=hE.nj.wf;have hXn:=hE.nj.now;have zBa:=hE.nj.len;obtain ⟨x1,x2,x3,x4,x5,x6,x7,x8,x9,x10⟩:=X.nU yD 1 2;have uR:=Mm X;have hXk:=Ml X;have yA:X.aA.length=X.fl.length:=by simp[NS.aA]
 have hTl:X.aZ.length=X.fl.length:=by simp[NS.aZ]
 refine Qd (An @x1 @x3) ?_
 refine Yn (fun y:Nat × Int=>y.1≤X.fl.length∧BI X.aZ X.now y.1 y.2)
  (fun y=>⟨[(0,.ptr 0 0),(1,.int .i64 dn),(4,.ptr 3 0),(5,.sl 5 4 0 es.length es.length),(6,.int .i64 y.2),(44,.sl 10 1 0 X.fl.length X.fl.length),(45,.int .i64 X.fl.length),(46,.int .i64 y.1)],[(3,.cells [.int .i64 0,.str [],.bool false,.str []]),(0,.cells (X.cR 1 2)),(1,.cells (bJ X.aA)),(2,.cells (Ql X.keys)),(4,.cells (Xj es))],5⟩) (fun y=>X.fl.length-y.1) dA.mixed [0] bf
  ⟨(0,-1),⟨by simp,.inl ⟨rfl,by simp⟩⟩,To.sub (ρ:=[]) rfl (by exact Qi (An @jO (An @eI (An @lG (An @Xb @Qu)))))⟩ fun y hy=>?_
 obtain ⟨k,qQ⟩:=y;obtain ⟨hk,vE⟩:=hy;dsimp only at hk vE ⊢;refine Qa ?_;refine Qc ?_ ?_<;>intro h2
 ·have bg:k < X.fl.length:=by omega
  have aK:=Du X.aA k af;have Bt:=Xmh X bg;have vN:=iS _ (getElem_mem bg);have ei:X.aA[k]'af=X.fl[k].2:=by simp[NS.aA]
  have jm:=Xe4 X.keys k (by have:=uK X;simp[Ql]at this;omega);have lO:X.keys[k]'(by have:=uK X;simp[Ql]at this;omega)=X.fl[k].1:=by simp[NS.keys]
  rw[ei]at aK;rw[lO]at jm;clear ei lO
  have gj:∀ (s:St) (b2:Int),BI X.aZ X.now (k + 1) b2→To [0] s ⟨[(0,.ptr 0 0),(1,.int .i64 dn),(4,.ptr 3 0),(5,.sl 5 4 0 es.length es.length),(6,.int .i64 b2),(44,.sl 10 1 0 X.fl.length X.fl.length),(45,.int .i64 X.fl.length),(46,.int .i64 (k + 1:Nat))],[(3,.cells [.int .i64 0,.str [],.bool false,.str []]),(0,.cells (X.cR 1 2)),(1,.cells (bJ X.aA)),(2,.cells (Ql X.keys)),(4,.cells (Xj es))],5⟩ →
    ∃ y:Nat×Int,(y.1<=X.fl.length/\BI X.aZ X.now y.1 y.2)/\To [0] s ⟨[(0,.ptr 0 0),(1,.int .i64 dn),(4,.ptr 3 0),(5,.sl 5 4 0 es.length es.length),(6,.int .i64 y.2),(44,.sl 10 1 0 X.fl.length X.fl.length),(45,.int .i64 X.fl.length),(46,.int .i64 y.1)],[(3,.cells [.int .i64 0,.str [],.bool false,.str []]),(0,.cells (X.cR 1 2)),(1,.cells (bJ X.aA)),(2,.cells (Ql X.keys)),(4,.cells (Xj es))],5⟩/\X.fl.length-y.1<X.fl.length-k:=fun s b2 h1 h2=>⟨(k+1,b2),⟨by dsimp only;omega,h1⟩,h2,by dsimp only;omega⟩
  generalize X.fl[k]=t at *
  obtain ⟨tk,⟨⟨t0,t1,t2,t3,t4⟩,t5,t6,t7,t8,t9⟩⟩:=t;unfold Fl.enc Zj at aK;dsimp only at aK Bt vN jm;have Dv:=And.intro uR hXk;have Dw:=And.intro x3 x4;by_cases c0:t9<=(X.now:Int);rotate_left
  ·have f0:decide (t9≤(X.now:Int))=false:=decide_eq_false c0;refine Qd (An @x1 (An @Dw (An @x6 (An @Dv (An @aK @f0))))) ?_;all_goals try (intro h;first|(cases h;done)|(simp_all;done))
   refine Yc ?_;refine Qa ?_;exact gj _ _ (vE.skip Bt (by dsimp only;omega)) (To.sub (ρ:=[]) rfl (by exact Qi (An @jO (An @eI (An @lG (An @Xb @Qu))))))
  have f0:decide (t9<=(X.now:Int))=true:=decide_eq_true c0;rcases vE with ⟨rfl,br⟩|⟨b,s,rfl,gW,Dx,Hx,hle⟩
  ·have f1:decide ((-1:Int) < 0)=true:=rfl
   (have aQ:=@x1;have bu:=@Dw;have bO:=@x6;have cy:=@Dv;have dc:=@aK;have eT:=@f0;have gF:=@f1;refine XG ?_;clear aQ bu bO cy dc eT gF;((try with_reducible and_intros);all_goals try first|refine zm ?_|exact CL))
   all_goals try (intro h;first|(cases h;done)|(simp_all;done))
   refine Yc ?_;refine Qa ?_;exact gj _ _ (BI.first br Bt (by dsimp only;omega)) (To.sub (ρ:=[]) rfl (by exact Qi (An @jO (An @eI (An @lG (An @Xb @Qu))))))
  ·have dK:b < X.fl.length:=by omega
   have hs:=Dx.symm.trans (Xmh X dK);have hdb:=iS _ (getElem_mem dK);have bZ:=(Xrc X.aA b af).1;have ym:=Xe4 X.keys b (by have:=uK X;simp[Ql]at this;omega);rw[show X.aA[b]'af=X.fl[b].2 by simp[NS.aA]]at bZ;rw[show X.keys[b]'(by have:=uK X;simp[Ql]at this;omega)=X.fl[b].1 by simp[NS.keys]]at ym;generalize X.fl[b]=u at *
   obtain ⟨uk,⟨⟨u0,u1,u2,u3,u4⟩,u5,u6,u7,u8,u9⟩⟩:=u;dsimp only at hs bZ ym hdb;obtain rfl:=Option.some.inj hs;have f1:decide ((b:Int)<0)=false:=decide_eq_false af;by_cases c1:t9<u9
   ·have f2:decide (t9 < u9)=true:=decide_eq_true c1
    (have aQ:=@x1;have bu:=@Dw;have bO:=@x6;have cy:=@Dv;have dc:=@aK;have eT:=@f0;have gF:=@f1;have nC:=@f2;have rn:=@bZ;refine XG ?_;clear aQ bu bO cy dc eT gF nC rn;((try with_reducible and_intros);all_goals try first|refine zm ?_|exact CL))
    all_goals try (intro h;first|(cases h;done)|(simp_all;done))
    refine Yc ?_;refine Qa ?_;exact gj _ _ (BI.more hle Bt (by dsimp only;omega) (by rw[rC];dsimp only;omega)) (To.sub (ρ:=[]) rfl (by exact Qi (An @jO (An @eI (An @lG (An @Xb @Qu))))))
   ·have f2:decide (t9 < u9)=false:=decide_eq_false c1;by_cases c2:t9=u9
    ·have f3:(t9 == u9)=true:=beq_iff_eq.2 c2;have f23:decide (t9 < u9)=false∧(t9 == u9)=true:=⟨f2,f3⟩
     have gkb:(bJ X.aA).getD (b*10+9) .any=.int .i64 u9/\(Ql X.keys).getD b .any=.int .i64 uk/\(Ql X.keys).getD k .any=.int .i64 tk:=⟨bZ,ym,jm⟩
     have Mr:decide (t9<=(X.now:Int))=true/\decide ((b:Int)<0)=false:=⟨f0,f1⟩
     by_cases c3:tk<uk
     ·have f4:decide (tk < uk)=true:=decide_eq_true c3;refine Qd (An @x1 (An @Dw (An @x6 (An @Dv (An @aK (An @Mr (An @f23 (An @f4 @gkb)))))))) ?_;all_goals try (intro h;first|(cases h;done)|(simp_all;done))
      refine Yc ?_;refine Qa ?_;exact gj _ _ (BI.more hle Bt (by dsimp only;omega) (by rw[rC];dsimp only;omega)) (To.sub (ρ:=[]) rfl (by exact Qi (An @jO (An @eI (An @lG (An @Xb @Qu))))))
     ·have f4:decide (tk < uk)=false:=decide_eq_false c3;refine Qd (An @x1 (An @Dw (An @x6 (An @Dv (An @aK (An @Mr (An @f23 (An @f4 @gkb)))))))) ?_;all_goals try (intro h;first|(cases h;done)|(simp_all;done))
      refine Yc ?_;refine Qa ?_;exact gj _ _ (BI.iq gW Dx Hx hle Bt (by rw[rC];dsimp only;omega)) (To.sub (ρ:=[]) rfl (by exact Qi (An @jO (An @eI (An @lG (An @Xb @Qu))))))
    ·have Mr:decide (t9≤(X.now:Int))=true∧decide ((b:Int) < 0)=false:=⟨f0,f1⟩
     have f23:decide (t9<u9)=false/\(t9==u9)=false:=⟨f2,beq_eq_false_iff_ne.2 c2⟩
     refine Qd (An @x1 (An @Dw (An @x6 (An @Dv (An @aK (An @Mr (An @f23 @bZ))))))) ?_;all_goals try (intro h;first|(cases h;done)|(simp_all;done))
     refine Yc ?_;refine Qa ?_;exact gj _ _ (BI.iq gW Dx Hx hle Bt (by rw[rC];dsimp only;omega)) (To.sub (ρ:=[]) rfl (by exact Qi (An @jO (An @eI (An @lG (An @Xb @Qu))))))
 ·obtain rfl:k=X.fl.length:=by omega
  unfold BI at vE;rw[<- hTl,take_length]at vE;rcases vE with ⟨rfl,br⟩|⟨b,t,rfl,gW,Dx,Hx,hle⟩
  ·have Dy:=pW br;have f0:decide ((-1:Int)<0)=true:=rfl;refine Qd @f0 ?_;refine Yc ?_;refine Qa ?_;rw[<- Dy];have hXt:X.told=S.told:=hE.told;have dj:es.length<=48:=by
    have h1:=hE.len;have h2:(S.ended dn).length<=S.fl.length:=Nat.le_trans (L5 _ _) (by unfold NS.aZ;rw[length_map];exact Nat.le_refl _);have h3:=hS.len;rw[length_take]at h1;omega
   have pX:=Xdw c.gl X yD af es af fun e he=>⟨(hE.bR e he).2,by
    cases es with
    | nil=>cases he
    | cons a l=>rw[(hE.bR e he).1];exact (hE.bR a List.mem_cons_self).1.symm⟩
   unfold Xn at pX;rw[hXt]at pX;have uN:(∀ S':NS,ah 4 (S'.cR 1 2))/\(∀ l,ah 4 (bJ l))/\∀ l,ah 4 (Xj l):=⟨Bs,jB,fun l=>Uc 4 l⟩
   ((first|refine Kn (ins:=[0,1,2,4]) pX ?_ ?_|refine Jb (ins:=[0,1,2,4]) pX ?_ ?_|refine Ja (ins:=[0,1,2,4]) pX ?_ ?_|refine Zg (ins:=[0,1,2,4]) pX ?_ ?_)<;>(have aQ:=@uN;have bu:=@eI;have bO:=@lG;have cy:=@Xb;have dc:=@Qu;refine XG ?_;clear aQ bu bO cy dc;(try first|exact rfl|exact True.intro);((try with_reducible and_intros);all_goals try first|refine zm ?_|exact CL)))
   ·decide
   exact ⟨(),To.ia 1 2 aJ av rfl rfl rfl (by simp[Rp.enc,Qs,Qe,ah,look,aB,ay])⟩
  ·have dK:b < X.fl.length:=by rw[← hTl];exact gW
   obtain ⟨hlt,m6,jN⟩:=cj b dK t Dx Hx hle;obtain ⟨hg9,Dz⟩:=Xrc X.aA b af;rw[show X.aA[b]'af=X.fl[b].2 by simp[NS.aA]]at Dz;obtain ⟨c1,c2,c3⟩:=Ygv hE.nj.c4 dK;have nd:=hE.nj.gt.wK (hE.nj.kB _ (getElem_mem dK));have aS:=hE.nj.ok;have CZ:Hid (∀ s,s<8->-9223372036854775808<=X.tb.aT s/\X.tb.aT s<=9223372036854775807):=Lib.hid fun s hs=>by have:=Tb.jH (Kb.2 hE.nj.gt) yD hs;omega
   have aE:=Tb.au yD;have dj:es.length<=48:=by
    have h1:=hE.len;have h2:(S.ended dn).length<=S.fl.length:=Nat.le_trans (L5 _ _) (by unfold NS.aZ;rw[length_map];exact Nat.le_refl _);have h3:=hS.len;rw[length_take]at h1;omega
   have dO:X.now=S.now+dn:=by omega
   rw[dO]at jN;clear cj pW iS hE hle Hx Dx;generalize hq:X.fl[b]=q at *
   obtain ⟨kq,⟨⟨m0,rP,m2,m3,m4⟩,q5,q6,q7,q8,q9⟩⟩:=q;dsimp only at Dz nd m6 c1 c2 c3;obtain ⟨S2,xS⟩:∃ S2,X.cut kq=S2:=⟨_,rfl⟩
   have dW:S2.tb=X.tb:=by rw[<- xS];rfl
   have kZ:S2.now=X.now:=by rw[<- xS];rfl
   have bw:∀ (l:List AV) j v,(X.tb.enc++l).set (30+j) v=X.tb.enc++l.set j v:=fun l j v=>by rw[List.set_append,aa (by rw[aE];omega),aE,Nat.add_sub_cancel_left]
   have b9:∀ n,n=S2.fl.length->((X.cR 1 2).set 30 (.sl 10 7 0 n n)).set 31 (.sl 1 9 0 n n)=S2.cR 7 9:=fun n e=>by
    rw[e,<- xS];show ((X.tb.enc++X.uQ 1 2).set (30+0) _).set (30+1) _=_;rw[bw,bw];rfl
   have Hy:∀ v,((X.cR 1 2).set 30 v).length=38:=fun v=>by rw[List.length_set];exact x1
   have Hz:∀ v,((X.cR 1 2).set 30 v).getD 31 .any=.sl 1 2 0 X.fl.length X.fl.length:=fun v=>by
    rw[<- x4];simp[List.getD]
   obtain ⟨s1,s2,s3,s4,s5,s6,s7,s8,s9,s10⟩:=S2.nU (by rw[dW];exact yD) 7 9;rw[xS]at c1 c2 c3;unfold Hj at m6;rw[xS]at m6;dsimp only at m6;unfold Mp.enc at Dz;dsimp only at Dz;have fg:(S2.fl.any fun r=>decide (r.2.map=⟨m0,rP,m2,m3,m4⟩))=S2.aA.any fun f=>decide (f.map=⟨m0,rP,m2,m3,m4⟩):=by
    unfold NS.aA;rw[List.any_map];rfl
   rw[fg]at m6;obtain ⟨hm,Lu⟩:∃ hm:Fl->Bool,(fun f:Fl=>decide (f.map=⟨m0,rP,m2,m3,m4⟩))=hm:=⟨_,rfl⟩
   have C8:∀ q:Fl,hm q=decide (q.map=⟨m0,rP,m2,m3,m4⟩):=fun q=>by rw[<- Lu]
   rw[Lu]at m6;have hF2:S2.aA.length=S2.fl.length:=by simp[NS.aA]
   have hl2:=Mm S2;have f0:decide ((b:Int)<0)=false:=decide_eq_false af;have wL:(∀ S':NS,ah 6 (S'.cR 1 2))/\(∀ l,ah 6 (bJ l))/\∀ l,ah 6 (Xj l):=⟨fun _=>NS.dI aJ aJ,fun l=>Kr 6 l,fun l=>Uc 6 l⟩
   have tC:=Xth X.aA b af;have Ms:=Xs6 X.aA (b+1) af;have Tp:bJ (X.aA.take b)++bJ (X.aA.drop (b+1))=bJ S2.aA:=by
    rw[c1];unfold bJ;rw[List.flatMap_append]
   have Tq:(Ql X.keys).take b=Ql (X.keys.take b):=by simp[Ql,List.map_take]
   have ht5:(Ql X.keys).drop (b+1)=Ql (X.keys.drop (b+1)):=by simp[Ql,List.map_drop]
   have Tr:Ql (X.keys.take b)++Ql (X.keys.drop (b+1))=Ql S2.keys:=by
    rw[c2];simp[Ql]
   have kN:(bJ (X.aA.take b)).length=b*10:=by rw[rO,length_take];omega
   have fO:X.keys.length=X.fl.length:=by simp[NS.keys]
   have HA:(Ql (X.keys.take b)).length=b:=by rw[Xp,length_take];omega
   have eO:((b:Int)+1).toNat=b+1:=by omega
   have ng:=And.intro uR (Ml X);have yE:=And.intro x1 x3;have jP:=And.intro Hy Hz;have s13:=And.intro s1 s3;have yF:=b9 S2.fl.length rfl;refine Qd @f0 ?_;refine Yc ?_;refine Qd (An @x1 (An @x3 (An @uR @Dz))) ?_;apply Yjr
   ·intro hX;by_cases yv:(b:Int) + 1 < (X.fl.length:Int)
    ·refine Yp (An @ng (An @tC (An @yE @Nat.sub_zero))) ?_;have aK:(bJ (X.aA.drop (b + 1))).take ((X.fl.length - (b + 1)) * 10)=bJ (X.aA.drop (b + 1)):=take_of_length_le (by rw[rO,List.length_drop];omega);have mO:(Ql (X.keys.drop (b + 1))).take (X.fl.length - (b + 1))=Ql (X.keys.drop (b + 1)):=take_of_length_le (by rw[Xp,List.length_drop];omega);have hbl:b + (X.fl.length - (b + 1))=S2.fl.length:=by omega
     refine Yp (An @ng (An (And.intro Ms Tp) (An @yE (An @Nat.sub_zero (An @eO (An @aK (An (And.intro kN hbl) @jP))))))) ?_;refine Yp (An @ng (An @Tq (An @yE (An @Nat.sub_zero @jP)))) ?_;refine Yp (An @ng (An (And.intro ht5 Tr) (An @yE (An @Nat.sub_zero (An @eO (An @mO (An (And.intro HA hbl) (An @jP (And.intro yF s13))))))))) ?_
     refine Yn (fun k:Nat=>k≤S2.fl.length) (fun k=>⟨[(0,.ptr 0 0),(1,.int .i64 dn),(4,.ptr 3 0),(5,.sl 5 4 0 es.length es.length),(9,.ptr 5 0),(10,.bool ((S2.aA.take k).any hm)),(156,.sl 10 1 0 S2.fl.length S2.fl.length),(157,.int .i64 S2.fl.length),(158,.int .i64 k)],[(5,.cells [.int .i64 m0,.int .i64 rP,.int .i64 m2,.int .i64 m3,.int .i64 m4]),(3,.cells [.int .i64 0,.str [],.bool false,.str []]),(0,.cells (S2.cR 1 2)),(1,.cells (bJ S2.aA)),(2,.cells (Ql S2.keys)),(4,.cells (Xj es))],6⟩) (fun k=>S2.fl.length - k) dA.mixed [0] bf
      ⟨0,Nat.zero_le _,To.sub (ρ:=[(1,7),(2,9)]) rfl ?_⟩ hX.o
     exact Qi (An @wL (An @eI (An @lG (An @Xb (An @Qu @any_nil.{0})))))
    ·have h1f:(bJ X.aA).take (b*10)=bJ S2.aA:=by
      rw[tC,<- Tp,List.drop_eq_nil_of_le af];simp[bJ]
     have h1k:(Ql X.keys).take b=Ql S2.keys:=by
      rw[Tq,<- Tr,List.drop_eq_nil_of_le af];simp[Ql]
     have h2f:(bJ S2.aA).length=b*10:=by rw[hl2];omega
     have h2k:(Ql S2.keys).length=b:=by rw[Ml];omega
     have HC:=b9 b af;refine Yp (An @ng (An @h1f (An @yE @Nat.sub_zero))) ?_;refine Yp (An @ng (An @h2f (An @yE (An @Nat.sub_zero (An @eO @jP))))) ?_;refine Yp (An @ng (An @h1k (An @yE (An @Nat.sub_zero @jP)))) ?_;refine Yp (An @ng (An @h2k (An @yE (An @Nat.sub_zero (An @eO (An @jP (And.intro HC s13))))))) ?_
     refine Yn (fun k:Nat=>k≤S2.fl.length) (fun k=>⟨[(0,.ptr 0 0),(1,.int .i64 dn),(4,.ptr 3 0),(5,.sl 5 4 0 es.length es.length),(9,.ptr 5 0),(10,.bool ((S2.aA.take k).any hm)),(156,.sl 10 1 0 S2.fl.length S2.fl.length),(157,.int .i64 S2.fl.length),(158,.int .i64 k)],[(5,.cells [.int .i64 m0,.int .i64 rP,.int .i64 m2,.int .i64 m3,.int .i64 m4]),(3,.cells [.int .i64 0,.str [],.bool false,.str []]),(0,.cells (S2.cR 1 2)),(1,.cells (bJ S2.aA)),(2,.cells (Ql S2.keys)),(4,.cells (Xj es))],6⟩) (fun k=>S2.fl.length - k) dA.mixed [0] bf
      ⟨0,Nat.zero_le _,To.sub (ρ:=[(1,7),(2,9)]) rfl ?_⟩ hX.o
     exact Qi (An @wL (An @eI (An @lG (An @Xb (An @Qu @any_nil.{0})))))
   clear b9 yF bw Hy Hz jP Dz tC Ms Tp Tq ht5 Tr kN HA;intro k hk;refine Qa ?_;refine Qc ?_ ?_<;>intro h5
   ·have bg:k < S2.aA.length:=by omega
    have aK:=Du S2.aA k bg;have hA:=Mo bg hm;have hmu:=C8 S2.aA[k];generalize S2.aA[k]=u at *
    obtain ⟨⟨u0,u1,u2,u3,u4⟩,u5,u6,u7,u8,u9⟩:=u;have rS:=@xL c false ⟨u0,u1,u2,u3,u4⟩ ⟨m0,rP,m2,m3,m4⟩;dsimp only at hmu;rw[<- hmu]at rS;generalize hm _=B1 at *
    generalize (S2.aA.take k).any hm=B at *
    unfold Fl.enc Zj at aK;unfold Mp.enc at rS;dsimp only at aK rS;cases B with
    | true =>
     rw[Bool.true_or]at hA;refine Qd (An @hl2 @aK) ?_
     ((first|apply xh|apply xi)<;>(have aQ:=@hl2;have bu:=@aK;refine XG ?_;clear aQ bu;first|exact rfl|exact True.intro|((try with_reducible and_intros);all_goals try first|refine zm ?_|exact CL)))
     all_goals try (intro h;first|(cases h;done)|(simp_all;done))
     refine ⟨k+1,by omega,To.sub (ρ:=[]) rfl ?_,by omega⟩;exact Qi (An @hA (An @wL (An @eI (An @lG (An @Xb @Qu)))))
    | false =>
     rw[Bool.false_or]at hA;refine Qd (An @hl2 @aK) ?_;refine zI (An @hl2 @aK) ?_;refine Qj rS (An @hl2 @aK) ?_;refine Qa ?_;refine ⟨k+1,by omega,To.sub (ρ:=[]) rfl ?_,by omega⟩;exact Qi (An @hA (An @wL (An @eI (An @lG (An @Xb @Qu)))))
   obtain rfl:k=S2.fl.length:=by omega
   rw[<- hF2,take_length];refine Qa ?_;refine Qc ?_ ?_<;>intro h6
   ·rw[am h6]at m6;refine Qa ?_;refine ⟨i+1,⟨by omega,jN⟩,To.sub (ρ:=[]) rfl ?_,by omega⟩;rw[m6];exact Qi (An @jO (An @eI (An @lG (An @Xb @Qu))))
   rw[aa (by rw[h6];simp)]at m6;have hC:=Xpc c.gl X.tb aS CZ ⟨m0,rP,m2,m3,m4⟩ (by have:=nd.port;dsimp only at this ⊢;omega);have Mt:=(Ygu yD ⟨m0,rP,m2,m3,m4⟩).1;have il:=C5 c.gl m4 (by have:=nd.port;dsimp only at this;omega);obtain ⟨v1,v2,-⟩:=S2.nU (by rw[dW];exact yD) 1 2;rw[dW]at v2;generalize X.tb.cls ⟨m0,rP,m2,m3,m4⟩=cl at *
   obtain ⟨tb,gv,ce⟩:=cl;unfold Ud Mp.enc at hC;dsimp only at hC Mt m6;have Tt:=NS.yC (S:=S2) (by rw[dW];exact yD) Mt 1 2;obtain ⟨z1,z2,z3,z4,z5,z6,-⟩:=({ S2 with tb:=tb }:NS).nU Mt 1 2;have hnz:({ S2 with tb:=tb }:NS).now=S2.now/\({ S2 with tb:=tb }:NS).aA=S2.aA/\({ S2 with tb:=tb }:NS).keys=S2.keys:=⟨rfl,rfl,rfl⟩
   have dH:=Tb.au Mt;have oZ:tb.enc.take 30=tb.enc:=take_of_length_le (by rw[dH];decide);generalize { S2 with tb:=tb }=S3 at *
   obtain ⟨rk,cI,Md⟩:=hnz;refine Qd (An @v1 @v2) ?_;refine Qj hC (An @v1 (An @v2 (An @dH @oZ))) ?_;refine Qd (An @v1 (An @v2 (An @dH (An @oZ (An @Tt @z1))))) ?_;refine Qc ?_ ?_<;>intro h7
   ·obtain rfl:=h7;rw[am rfl]at m6;have js:Xj es++[.int .i64 S3.now,.int .i64 rP,.int .i64 m3,.int .i64 (Xd m4),.bool true]=Xj (es++[S2.ev ⟨m0,rP,m2,m3,m4⟩ true]):=by
     rw[rk];simp[Xj,Ev.enc,NS.ev]
    have Tu:=yf es;unfold lV at il;refine Qa ?_;refine Qj il (An @z1 @z6) ?_;refine Qd (An @z1 @z6) ?_;refine Yp (An @z1 @z6) ?_;refine Yp (An @Tu @js) ?_;refine Qa ?_;refine ⟨i+1,⟨by omega,jN⟩,To.sub (ρ:=[(4,8)]) rfl ?_,by omega⟩;rw[m6];exact Qi (An @jO (An @eI (An @lG (An @Xb (An @Qu (An @cI (An @Md @List.length_singleton.{0})))))))
   ·obtain rfl:=h7;rw[aa av]at m6;refine Qa ?_;refine ⟨i+1,⟨by omega,jN⟩,To.sub (ρ:=[]) rfl ?_,by omega⟩;rw[m6];exact Qi (An @jO (An @eI (An @lG (An @Xb (An @Qu (An @cI @Md))))))
def Qt8 (S:NS)(a mc pc:List AV)(ha:ah 3 a)(hm:ah 3 mc)(hp:ah 3 pc):HL ([(7,.cells mc),(6,.cells pc),(5,.cells [.int .i64 0,.str [],.bool false,.str []]),(4,.cells a),(3,.cells [.ptr 0 0])]++Xn S) 8 :=
 (((((Kg S).more (x:=.cells [.ptr 0 0]) (by simp[bX,ah,Qe])).more (x:=.cells a) (rE (x:=.cells a) (by decide:3<=5) ha)).more (x:=.cells [.int .i64 0,.str [],.bool false,.str []]) (by simp[bX,ah,Qe])).more (x:=.cells pc) (rE (x:=.cells pc) (by decide:3<=7) hp)).more (x:=.cells mc) (rE (x:=.cells mc) (by decide:3<=8) hm)
def To.rM {p:List Nat}{t t':List (Nat×AV)}{ex ex':List (Nat×Bk)}{S:NS}{N n k:Nat}(H':HL (ex'++Xn S) k)(hk:3<=k)(hkN:k<=N)(jL:∀ q ∈ ex',3<=q.1)(hex:∀ q ∈ ex,3<=q.1/\q.1<N)(hp:∀ b ∈ p,b=0)
  (hl:∀ b,3<=b->b<k->Qb (ex++Qq (cG id [0] N) (Xn S)) n b=Qw (lw (cG id [0] N) 3) (Qb (ex'++Xn S) k b)) (ht:Qs (lw (cG id [0] N) 3) k t t'):To p ⟨t,ex++Qq (cG id [0] N) (Xn S),n⟩ ⟨t',ex'++Xn S,k⟩:=by
 have hs:∀ b,cG id [0] N b=0/\b=0\/cG id [0] N b=N+b/\b≠0:=fun b=>by
  by_cases e:b=0
  ·subst e;exact .inl ⟨Ks av,rfl⟩
  ·exact .inr ⟨Uh (by simpa using e),e⟩
 refine To.mid (Kg S) H' hk jL (fun b b' hb bL e=>?_) (fun q hq b hb e=>?_) (fun b hb b' h1 h2 e=>?_) (fun b hb=>?_) hl ht
 ·rcases hs b with ⟨h1,h2⟩|⟨h1,h2⟩<;>rcases hs b' with ⟨h3,h4⟩|⟨h3,h4⟩<;>omega
 ·have:=hex q hq;rcases hs b with ⟨h1,h2⟩|⟨h1,h2⟩<;>omega
 ·rcases hs b with ⟨h3,h4⟩|⟨h3,h4⟩<;>omega
 ·obtain rfl:=hp b hb;exact ⟨rfl,by omega⟩
structure RW where
 t:List (Nat×AV)
 h:List (Nat×Bk)
 n:Nat
 F:Nat
 I:Nat
 m:Mp
 es:List Ev
 S1:NS
def RW.ρ (i:RW)(b:Nat):Nat:=if b=1 then i.F else if b=2 then i.I else if b<6 then b else b+1
structure RJ (f:List UInt8)(pc ac:List AV)(x:Rp×NS)(i:RW):Prop where
 x:x=i.S1.ff f i.m i.es
 ni:NI i.S1
 nx:i.S1.bH<=100000
 m:Bo i.m
 k2:look i.t 2=.ptr 3 0
 k3:look i.t 3=.ptr 4 0
 k4:look i.t 4=.ptr 5 0
 k7:look i.t 7=.ptr 7 0
 jF:look i.t 10=.ptr 8 0
 wC:look i.t 11=.str (nP i.S1.told i.es)
 d:i.F≠i.I/\(i.F=1\/9<=i.F)/\(i.I=2\/9<=i.I)
 b0:Qb i.h i.n 0=.cells ((i.S1.log i.es).cR i.F i.I)
 b1:Qb i.h i.n i.F=.cells (bJ i.S1.aA)
 b2:Qb i.h i.n i.I=.cells (Ql i.S1.keys)
 b3:Qb i.h i.n 3=.cells [.ptr 0 0]
 b4:Qb i.h i.n 4=.cells ac
 b5:Qb i.h i.n 5=.cells [.int .i64 0,.str [],.bool false,.str []]
 b7:Qb i.h i.n 7=.cells pc
 b8:Qb i.h i.n 8=.cells i.m.enc
def RJ.to {f:List UInt8}{pc ac:List AV}{x:Rp×NS}{i:RW}(h:RJ f pc ac x i)(ha:ah 3 ac/\∀ ρ,ay ρ ac=ac)(hp:ah 3 pc/\∀ ρ,ay ρ pc=pc){p:List Nat}(h0:∀ b ∈ p,b=0){t t':List (Nat×AV)}(ht:Qs i.ρ 8 t t') :
  To p ⟨t,i.h,i.n⟩ ⟨t',[(7,.cells i.m.enc),(6,.cells pc),(5,.cells [.int .i64 0,.str [],.bool false,.str []]),(4,.cells ac),(3,.cells [.ptr 0 0])]++Xn (i.S1.log i.es),8⟩:=by
 obtain ⟨d1,d2,d3⟩:=h.d;have r0:i.ρ 0=0:=rfl;have r1:i.ρ 1=i.F:=rfl;have r2:i.ρ 2=i.I:=rfl;refine To.pQ i.ρ (Qt8 (i.S1.log i.es) ac i.m.enc pc ha.1 (by simp[Mp.enc,ah,Qe]) hp.1) (fun b hb=>by rw[h0 b hb];exact ⟨rfl,by decide⟩) (fun b b' hb bL e=>?_) (fun b hb=>?_) ht
 ·unfold RW.ρ at e
  (repeat' split at e)<;>omega
 ·rcases (by omega:b=0∨b=1∨b=2∨b=3∨b=4∨b=5∨b=6∨b=7) with rfl|rfl|rfl|rfl|rfl|rfl|rfl|rfl
  ·rw[r0,h.b0];show _=Bk.cells (ay i.ρ _);rw[NS.da];rfl
  ·rw[r1,h.b1];exact SX _ _
  ·rw[r2,h.b2];exact Qwv _ _
  ·exact h.b3
  ·refine h.b4.trans ?_;show _=Bk.cells (ay i.ρ ac);rw[ha.2]
  ·exact h.b5
  ·refine h.b7.trans ?_;show _=Bk.cells (ay i.ρ pc);rw[hp.2]
  ·refine h.b8.trans ?_;show _=Bk.cells (ay i.ρ i.m.enc);simp[Mp.enc,ay,aB]
def pY (c:Fl->Bool)(m:Mp)(l:List Fl):Mp:=if l.any c=true then m else cQ
def Ycv (S:NS)(hS:NI S)(nK:S.bH<=90000)(m9:S.told<=90000)(ak an ad:Int)(f:List UInt8)(hf:f.length<=140737488351232) :
  GD Tryz.prog gl 66 [.ptr 0 0,.agg [.int .i64 ak,.int .i64 an,.int .i64 ad,.str f]] (Xn S) 3 [0] (.agg (S.out f ad).1.enc) (Xn (S.out f ad).2):=by
 have dA:FT Tryz.prog 66 Tryz.f66 (aG Tryz.prog Tryz.f66) [.cell 4 (.ag 4)]:=.of Tryz.func66;obtain ⟨x,hx⟩:∃ x,S.out f ad=x:=⟨_,rfl⟩
 rw[hx];refine dA.gq (ap rfl) (Bq S) av fun c bf hg=>?_;subst hg
 conv in aG _ _=>cbv
 have hw:=hS.wf;obtain ⟨e1,e2,e3,e4,e5,e6,e7,e8,e9,Br⟩:=S.nU hw 1 2;have Bi:=hS.len;have hP:=J9 c.gl f hf;have br:∀ e,kS Tryz.prog c .cC [.cl 104 [],.int .i64 e] (.agg [.int .i64 e,.str [],.bool false,.str []]):=fun e=>Jr (caps:=[]) (Xp3 c.gl e) (by simp[ah,Qe]);obtain ⟨Z1,rL,rk⟩:∃ Z:Int,(3405803777:Int)=Z/\0<=Z/\Z<=4294967296:=⟨_,rfl,by decide,by decide⟩
 obtain ⟨Z2,uM,cI⟩:∃ Z:Int,(167772161:Int)=Z/\0<=Z/\Z<=4294967296:=⟨_,rfl,by decide,by decide⟩
 obtain ⟨Z3,Mc,Md⟩:∃ Z:Int,(3405803779:Int)=Z/\0<=Z/\Z<=4294967296:=⟨_,rfl,by decide,by decide⟩
 rw[rL,uM,Mc];obtain ⟨p,e,pD,yq,vD⟩:=L7 f;rw[pD]at hP;rw[Sn]at hx;obtain ⟨p1,p2,p3,p4,p5,p6,p7,p8,p9,dh,di,pb⟩:=p;unfold Pk.enc at hP;unfold Xn;dsimp only at hP;refine Qa ?_;refine Xc hP ?_;refine Qa ?_;refine Qc ?_ ?_<;>intro h1
 ·have he:=vD h1;subst he;rw[am h1]at hx;subst hx;have hn:=br (cH f);unfold bN Rp.enc;refine Qa ?_;refine Xc hn ?_;exact ⟨(),To.ia 1 2 aJ av rfl rfl rfl (by simp[Qs,Qe,ah,look,aB,ay])⟩
 obtain ⟨he,hp,sD,oP⟩:=yq h1;have ko:=(Wj (Ds he).e).2.2.2;rw[aa (by rw[he];simp)]at hx;have Dq:S.opened f (S.tb.cd p1 (p2-Z2) p3 ad)=(({ S with tb:=(S.tb.cd p1 (p2-Z2) p3 ad).1 }:NS).begin ⟨(S.tb.cd p1 (p2-Z2) p3 ad).2.1,p4,p5,Wr p1,0,0⟩).ff f (S.tb.cd p1 (p2-Z2) p3 ad).2.1 (if (S.tb.cd p1 (p2-Z2) p3 ad).2.2.1 then [({ S with tb:=(S.tb.cd p1 (p2-Z2) p3 ad).1 }:NS).ev (S.tb.cd p1 (p2-Z2) p3 ad).2.1 false] else []):=by
  unfold NS.opened;rw[hp]
 rw[hp]at hx ko;unfold Jl at oP;unfold Wo at ko;dsimp only at hx sD oP ko;refine Qa ?_;refine Qc ?_ ?_<;>intro h2
 ·rw[am af]at hx;subst hx;have hn:=br 7;unfold bN Rp.enc;refine Qa ?_;refine Xc hn ?_;exact ⟨(),To.ia 1 2 aJ av rfl rfl rfl (by simp[Qs,Qe,ah,look,aB,ay])⟩
 rw[aa af]at hx;refine Qa ?_;refine Qc ?_ ?_<;>intro h3
 ·rw[am af]at hx;subst hx;have hn:=br 4;unfold bN Rp.enc;refine Qa ?_;refine Xc hn ?_;exact ⟨(),To.ia 1 2 aJ av rfl rfl rfl (by simp[Qs,Qe,ah,look,aB,ay])⟩
 rw[aa af]at hx;refine Qa ?_;refine Qc ?_ ?_<;>intro h4
 ·rw[am af]at hx;subst hx;have hn:=br 12;unfold bN Rp.enc;refine Qa ?_;refine Xc hn ?_;exact ⟨(),To.ia 1 2 aJ av rfl rfl rfl (by simp[Qs,Qe,ah,look,aB,ay])⟩
 rw[aa af]at hx;obtain ⟨m,hM,tI⟩:=Xzb hS.toNJ ⟨p1,p2,p3,p4,p5,p6,p7,p8,p9,dh,di,pb⟩;rw[show (167772161:Int)=Z2 from uM]at hx hM tI;dsimp only at hM tI;have yA:S.aA.length=S.fl.length:=by simp[NS.aA]
 have HD:∀ q ∈ S.aA,qU ⟨p1,p2,p3,p4,p5,p6,p7,p8,p9,dh,di,pb⟩ (p2-Z2) q=true->q.map=m:=fun q hq h=>by
  obtain ⟨r,hr,rfl⟩:=mem_map.1 hq;exact hM r hr h
 have wM:(∀ S':NS,ah 9 (S'.cR 1 2))/\∀ l,ah 9 (bJ l):=⟨fun _=>NS.dI aJ aJ,fun l=>Kr 9 l⟩
 have eI:=fun (S:NS) ρ=>NS.da (S:=S) (f:=1) (i:=2) ρ;obtain ⟨cc,uT⟩:∃ cc,qU ⟨p1,p2,p3,p4,p5,p6,p7,p8,p9,dh,di,pb⟩ (p2-Z2)=cc:=⟨_,rfl⟩
 have Hv:∀ q:Fl,cc q=true ↔ q.map.s=p2-Z2/\q.map.ae=p1/\q.map.aH=p3/\q.rem=p4/\q.rport=p5:=fun q=>by
  rw[<- uT];simp[qU,and_assoc]
 rw[uT]at HD tI;have uE:∀ q:Fl,cc q=true->oS cc ⟨p1,p2,p3,p4,p5,p6,p7,p8,p9,dh,di,pb⟩ false S.now q=q.next ⟨p1,p2,p3,p4,p5,p6,p7,p8,p9,dh,di,pb⟩ false S.now:=fun q h=>am h;have hgn:∀ q:Fl,cc q=false->oS cc ⟨p1,p2,p3,p4,p5,p6,p7,p8,p9,dh,di,pb⟩ false S.now q=q:=fun q h=>aa (by rw[h];simp);generalize hgg:oS cc ⟨p1,p2,p3,p4,p5,p6,p7,p8,p9,dh,di,pb⟩ false S.now=g at *
 generalize hF:S.aA=F at *
 have fT:Wv g F 0=F:=Qu5;have Fa:pY cc m []=cQ:=rfl;refine Qd (An @e1 @e3) ?_
 refine Yn (fun i:Nat=>i≤S.fl.length) (fun i=>⟨[(2,.ptr 3 0),(3,.ptr 4 0),(4,.ptr 5 0),(5,.ptr 6 0),(6,.cl 105 [.ptr 3 0,.ptr 6 0,.ptr 4 0]),(7,.ptr 7 0),(9,.int .i64 (p2 - Z2)),(10,.ptr 8 0),(11,.str []),(12,.bool ((F.take i).any cc)),(66,.sl 10 1 0 S.fl.length S.fl.length),(67,.int .i64 S.fl.length),(68,.int .i64 i)],
   [(8,.cells [.int .i64 (pY cc m (F.take i)).ae,.int .i64 (pY cc m (F.take i)).s,.int .i64 (pY cc m (F.take i)).aH,.int .i64 (pY cc m (F.take i)).a,.int .i64 (pY cc m (F.take i)).port]),(7,.cells [.int .i64 p1,.int .i64 p2,.int .i64 p3,.int .i64 p4,.int .i64 p5,.int .i64 p6,.int .i64 p7,.int .i64 p8,.int .i64 p9,.int .i64 dh,.int .i64 di,.str pb]),(6,.cells [.cl 104 []]),(5,.cells [.int .i64 0,.str [],.bool false,.str []]),(4,.cells [.int .i64 ak,.int .i64 an,.int .i64 ad,.str f]),(3,.cells [.ptr 0 0]),(0,.cells (S.cR 1 2)),(1,.cells (bJ (Wv g F i))),(2,.cells (Ql S.keys))],9⟩) (fun i=>S.fl.length-i) dA.mixed [0] bf
  ⟨0,Nat.zero_le _,To.sub (ρ:=[]) rfl ?_⟩ fun i hi=>?_
 ·exact Qi (An @fT (An @Fa (An @cQ.eq_1 (An @any_nil.{0} (An @wM (An @eI (An @Xb @Qu)))))))
 refine Qa ?_;refine Qc ?_ ?_<;>intro h5
 ·have aL:i < F.length:=by omega
  have uR:(bJ (Wv g F i)).length=S.fl.length*10:=by rw[rO,yy,yA]
  have aK:((bJ (Wv g F i)).drop (i*10)).take 10=F[i].enc:=by rw[Du _ i (by rw[yy];exact aL),S7 aL]
  have bw:Ym (bJ (Wv g F i)) (i*10) (g F[i]).enc=bJ (Wv g F (i+1)):=by rw[Xei _ _ (by rw[yy];exact aL),S8 aL]
  have cX:=Qu6 (g:=g) aL;have hA:=Mo aL cc;have ry:=HD _ (getElem_mem aL);have hq:=Hv F[i];have ep:=uE F[i];have Mq:=hgn F[i];generalize F[i]=q at *
  obtain ⟨⟨q0,q1,q2,q3,q4⟩,k0,k1,k2,k3,k4⟩:=q;unfold Fl.enc Zj at aK;dsimp only at aK hq ry;refine Qd (An @uR @aK) ?_;refine Qc ?_ ?_<;>intro h6
  ·have hc:cc ⟨⟨q0,q1,q2,q3,q4⟩,k0,k1,k2,k3,k4⟩=true:=hq.2 af;rw[hc,Bool.or_true]at hA;rw[ep hc]at bw;have Bu:pY cc m (F.take (i+1))=⟨q0,q1,q2,q3,q4⟩:=by
    unfold pY;rw[hA,am rfl];exact (ry hc).symm
   have pF:=Qy6 c.gl q0 q1 q2 q3 q4 k0 k1 k2 k3 k4 p1 p2 p3 p4 p5 p6 p7 p8 p9 dh di pb false S.now af;unfold Fl.next Fl.enc at bw;unfold Zj at bw pF;dsimp only at bw pF;generalize Ur q0 k2 k3 k4 p8 false S.now=N at *
   obtain ⟨N1,N2,N3⟩:=N;dsimp only at bw pF;refine Qd (An @e1 (An @e3 @e6)) ?_;refine Qj pF (An @e1 (An @e3 @e6)) ?_;refine Qd (An @uR @bw) ?_;refine ⟨i+1,by omega,To.sub (ρ:=[]) rfl ?_,by omega⟩;exact Qi (An @hA (An @Bu (An @wM (An @eI (An @Xb @Qu)))))
  ·have hc:cc ⟨⟨q0,q1,q2,q3,q4⟩,k0,k1,k2,k3,k4⟩=false:=by
    cases hcx:cc ⟨⟨q0,q1,q2,q3,q4⟩,k0,k1,k2,k3,k4⟩ with
    | false=>rfl
    | true =>
     have:=hq.1 hcx;omega
   rw[hc,Bool.or_false]at hA;have Bu:pY cc m (F.take (i+1))=pY cc m (F.take i):=by
    unfold pY;rw[hA]
   have uB:=cX (Mq hc);refine Qa ?_;refine ⟨i+1,by omega,To.sub (ρ:=[]) rfl ?_,by omega⟩;exact Qi (An @hA (An @Bu (An @uB (An @wM (An @eI (An @Xb @Qu))))))
 obtain rfl:i=S.fl.length:=by omega
 have bl:Wv g F S.fl.length=F.map g:=by rw[<- yA,Qwj]
 have nf:F.take S.fl.length=F:=by rw[<- yA,take_length]
 rw[bl,nf];clear bl nf uE hgn fT Fa;have ry:(if F.any cc=true then m else cQ)=pY cc m F:=rfl;have Lz:∀ n,ah n [.int .i64 p1,.int .i64 p2,.int .i64 p3,.int .i64 p4,.int .i64 p5,.int .i64 p6,.int .i64 p7,.int .i64 p8,.int .i64 p9,.int .i64 dh,.int .i64 di,.str pb]:=fun n=>by simp[ah,Qe]
 have Tv:∀ n,ah n [.int .i64 ak,.int .i64 an,.int .i64 ad,.str f]:=fun n=>by simp[ah,Qe]
 refine Qa ?_;refine Sx (RJ f [.int .i64 p1,.int .i64 p2,.int .i64 p3,.int .i64 p4,.int .i64 p5,.int .i64 p6,.int .i64 p7,.int .i64 p8,.int .i64 p9,.int .i64 dh,.int .i64 di,.str pb] [.int .i64 ak,.int .i64 an,.int .i64 ad,.str f] x) (fun i=>⟨i.t,i.h,i.n⟩) (fun i hi=>?_) fun Q' hQ hR=>?_
 ·have jj:=fun {t t':List (Nat × AV)} (ht:Qs i.ρ 8 t t')=>hi.to ⟨Tv 3,fun ρ=>by simp[ay,aB]⟩ ⟨Lz 3,fun ρ=>by simp[ay,aB]⟩ (p:=[0]) av ht;clear Hv hM HD tI hgg uT hF Dq hx;obtain ⟨hx,yK,jN,nd,k2,k3,k4,k7,jF,wC,-,b0,b1,b2,b3,b4,b5,b7,b8⟩:=hi;have r1:i.ρ 3=3∧i.ρ 4=4∧i.ρ 5=5∧i.ρ 6=7∧i.ρ 7=8:=⟨rfl,rfl,rfl,rfl,rfl⟩
  generalize i.ρ=ρ at *
  obtain ⟨t,h,n,F1,I1,⟨m0,m1,m2,m3,m4⟩,es,S1⟩:=i;unfold Mp.enc at b8 jj;dsimp only at *
  have SI:=nd.a;have hmp:=nd.port;dsimp only at SI hmp;have te:Wf (aC f) 0 (Z1+m3) m4=0:=by
   rw[hp];unfold Wf;dsimp only;rw[aa af,aa h4,aa af]
  have hT:=Qxc c.gl f 0 (Z1+m3) m4 hf he te;have hGl:=Nat.le_trans (Qtx f 0 (Z1+m3) m4) hf;rw[Sy,hp,rL]at hx;rw[Qo8 he te (.inl af)]at hx hGl;generalize Zw (ui (aC f) 0 (Z1+m3) m4)=G at *
  dsimp only at hx;have Mu:=fun (S:NS) n b hb=>(Kg S).hi n b hb;generalize hL:nP S1.told es=L at *
  have hH8:=fun S'=>Qt8 S' [.int .i64 ak,.int .i64 an,.int .i64 ad,.str f] [.int .i64 m0,.int .i64 m1,.int .i64 m2,.int .i64 m3,.int .i64 m4] [.int .i64 p1,.int .i64 p2,.int .i64 p3,.int .i64 p4,.int .i64 p5,.int .i64 p6,.int .i64 p7,.int .i64 p8,.int .i64 p9,.int .i64 dh,.int .i64 di,.str pb] (Tv 3) (by simp[ah,Qe]) (Lz 3);refine Qd (An @k3 (An @b4 (An @jF @b8))) ?_;refine qk (p:=[0]) (s':=⟨[(2,.ptr 3 0),(4,.ptr 5 0),(7,.ptr 6 0),(11,.str L),(198,.str f),(201,.int .i64 (Z1+m3)),(203,.int .i64 m4)],_,8⟩) bf (jj ?_) ?_
  ·simp[Qs,Qe,ah,look,aB,ay,k2,k4,k7,wC,r1]
  ((first|apply Yy|apply Yh|apply Xo|apply Xg)<;>(first|exact hT|(refine XG ?_;first|exact rfl|exact True.intro|((try with_reducible and_intros);all_goals try first|refine zm ?_|exact CL))))
  exact Qi @Mu;refine Qc ?_ ?_<;>intro h7
  ·rw[am af]at hx;have aL:=Xmg c.gl (S1.log es) (Xst yK es) jN G hGl;generalize (S1.log es).aH G=y at *
   obtain ⟨⟨r1,r2,r3,r4⟩,S2⟩:=y;subst hx;unfold Rp.enc at aL ⊢;dsimp only at aL ⊢;refine Qd @Mu ?_;refine uJ (v:=false) (pp:=[0]) (ex:=[(8,_),(8,_),(7,_),(6,_),(5,_),(4,_),(3,_)]) (s3:=⟨[(4,.ptr 5 0),(11,.str L),(24,.ptr 8 0),(219,.agg [.int .i64 r1,.str r2,.bool r3,.str r4])],[(8,.cells [.int .i64 0,.str G,.bool false,.str []]),(7,.cells [.int .i64 m0,.int .i64 m1,.int .i64 m2,.int .i64 m3,.int .i64 m4]),(6,.cells [.int .i64 p1,.int .i64 p2,.int .i64 p3,.int .i64 p4,.int .i64 p5,.int .i64 p6,.int .i64 p7,.int .i64 p8,.int .i64 p9,.int .i64 dh,.int .i64 di,.str pb]),(5,.cells [.int .i64 0,.str [],.bool false,.str []]),(4,.cells [.int .i64 ak,.int .i64 an,.int .i64 ad,.str f]),(3,.cells [.ptr 0 0])]++Xn S2,9⟩) bf aL (Kg _) (Kg S2) (by simp[Qe,ah]) aJ av av rfl ?_ ?_ ?_
   ·exact Qi @Yl
   ·unfold Ju;refine To.rM ((hH8 S2).more (by simp[bX,ah,Qe])) aJ aJ av av av (fun b h1 h2=>?_) ?_
    ·rcases (by omega:b=3\/b=4\/b=5\/b=6\/b=7\/b=8) with rfl|rfl|rfl|rfl|rfl|rfl<;>rfl
    ·simp[Qs,Qe,ah,look,aB,ay,lw]
   refine Qd @Mu ?_;exact ⟨(),To.ia 1 2 aJ av rfl rfl rfl (by simp[Qs,Qe,ah,look,aB,ay])⟩
  ·rw[aa af]at hx;subst hx;unfold Rp.enc;refine Qd @Mu ?_;exact ⟨(),To.ia 1 2 aJ av rfl rfl rfl (by simp[Qs,Qe,ah,look,aB,ay])⟩
 have uN:(∀ S':NS,ah 6 (S'.cR 1 2))/\∀ l,ah 6 (bJ l):=⟨fun _=>NS.dI aJ aJ,fun l=>Kr 6 l⟩
 rcases tI with ⟨gO,iv,fg⟩|⟨gO,yn,Lq,fg⟩
 rotate_left
 ·rw[am gO,yn]at hx;have Bu:pY cc m F=m:=am fg;rw[fg,Bu,Lq];refine Yc ?_;refine Qa ?_;obtain ⟨r,hr,e⟩:=List.any_eq_true.1 fg;have hrm:=HD r hr e;rw[<- hF]at hr;obtain ⟨q,hq,rfl⟩:=mem_map.1 hr;have nd:=hS.gt.wK (hrm ▸ hS.kB q hq);refine hQ ⟨_,_,_,1,2,m,[],S.goes _ _ false⟩ ⟨hx.symm,hS.goes _ _ _,by show S.bH<=_;omega,nd,rfl,rfl,rfl,rfl,rfl,rfl,by simp,congrArg Bk.cells (Xee ..).symm,rfl,congrArg (fun l=>Bk.cells (Ql l)) (Sj ..).symm,rfl,rfl,rfl,rfl,rfl⟩
 rw[aa (by rw[gO];simp)]at hx;have Bu:pY cc m F=cQ:=aa (by rw[fg];simp);have uF:=iv false S.now;rw[hgg]at uF;rw[fg,Bu,uF];have hB:=Xhw c.gl ⟨p1,p2,p3,p4,p5,p6,p7,p8,p9,dh,di,pb⟩ sD (by dsimp only;omega);unfold Pk.enc at hB;dsimp only at hB;refine Yc ?_;refine Qa ?_;refine Xc hB ?_;refine Qa ?_;refine Qc ?_ ?_<;>intro h7
 ·rw[am h7]at hx;subst hx;have hn:=br 11;refine Qa ?_;refine Xc hn ?_;refine hR _ ?_;unfold bN Rp.enc;refine Qa ?_;exact ⟨(),To.ia 1 2 aJ av rfl (by rw[<- hF];rfl) rfl (by simp[Qs,Qe,ah,look,aB,ay])⟩
 rw[aa (by rw[h7];simp)]at hx;have jk:∀ e:Int,GS Tryz.prog c.gl 105 [.int .i64 e,.ptr 3 0,.ptr 5 0,.ptr 4 0] (Xn S++yB ⟨ak,an,ad,f⟩) 6 (.agg (S.refuse f e).1.enc) (Xn (S.refuse f e).2++yB ⟨ak,an,ad,f⟩) 6:=fun e=>Yag c.gl S hw hS.ref ⟨ak,an,ad,f⟩ hf he e;refine Qd (An @e1 @e3) ?_;refine Qc ?_ ?_<;>intro h8
 ·rw[am af]at hx;have jk:=jk 6;rw[hx]at jk;clear hx;obtain ⟨⟨r1,r2,r3,r4⟩,S2⟩:=x;unfold Xn yB Ac.enc Rp.enc at jk;dsimp only at jk;rw[hF]at jk;refine Qa ?_
  ((first|refine Kn (ins:=[0,1,2,3,4,6]) jk ?_ ?_|refine Jb (ins:=[0,1,2,3,4,6]) jk ?_ ?_|refine Ja (ins:=[0,1,2,3,4,6]) jk ?_ ?_|refine Zg (ins:=[0,1,2,3,4,6]) jk ?_ ?_)<;>(have aQ:=@uN;have bu:=@eI;have bO:=@Xb;have cy:=@Qu;refine XG ?_;clear aQ bu bO cy;(try first|exact rfl|exact True.intro);((try with_reducible and_intros);all_goals try first|refine zm ?_|exact CL)))
  ·decide
  refine hR _ ?_;unfold Rp.enc;refine Qa ?_;exact ⟨(),To.ia 1 2 aJ av rfl rfl rfl (by simp[Qs,Qe,ah,look,aB,ay])⟩
 rw[aa af]at hx;have CZ:Hid (∀ s,s<8->-9223372036854775808<=S.tb.aT s/\S.tb.aT s<=9223372036854775807):=Lib.hid fun s hs=>by have:=Tb.jH (Kb.2 hS.gt) hw hs;omega
 have hO:=Xvs c.gl S.tb hS.toNJ.ok CZ p1 (p2-Z2) p3 ad
 obtain ⟨nR,Bv⟩:(S.tb.cd p1 (p2 - Z2) p3 ad).1.wf∧((S.tb.cd p1 (p2 - Z2) p3 ad).2.2.2=0→(∀ st,NI (({ S with tb:=(S.tb.cd p1 (p2 - Z2) p3 ad).1 }:NS).begin ⟨(S.tb.cd p1 (p2 - Z2) p3 ad).2.1,p4,p5,st,0,0⟩))∧Bo (S.tb.cd p1 (p2 - Z2) p3 ad).2.1 ∧
   Je S.now (S.tb.cd p1 (p2-Z2) p3 ad).2.1.s (S.tb.cd p1 (p2-Z2) p3 ad).2.1.a (Xd (S.tb.cd p1 (p2-Z2) p3 ad).2.1.port)=true/\(S.tb.cd p1 (p2-Z2) p3 ad).2.1.s=p2-Z2):=by
  obtain ⟨S0,oO⟩:∃ S0:Nat,p2-Z2=S0:=⟨(p2-Z2).toNat,by omega⟩
  have bg:=Sk (p:=⟨p1,p2,p3,p4,p5,p6,p7,p8,p9,dh,di,pb⟩) sD (s:=S0) (i:=p3) af af oP.2.2.2.2.1.1 oP.2.2.2.2.1.2;have hop:=opened hS.gt hS.wf bg ad;refine ⟨by rw[oO];exact hop.wf hS.wf,fun h=>?_⟩;obtain ⟨S9,hS9,-,-,-,-,hb⟩:=hS.opened he (draw:=ad) (by rw[hp];dsimp only;omega) (by rw[hp];exact gO) af (by rw[hp];dsimp only;rw[show p2-167772161=p2-Z2 by omega];exact h);rw[hp]at hb hS9;dsimp only at hb hS9;rw[show (S9:Int)=p2-Z2 by omega]at hb;rw[oO]at h hb ⊢;have bQ:=(hop.has h).1;have hg:=hop.bR hS.gt hS.wf bg;exact ⟨hb,hg.wK bQ,Sl (S:={ S with tb:=(S.tb.cd p1 S0 p3 ad).1 }) hS.now hg bQ false,(hop.has h).2.2.1⟩
 rw[show (if (S.tb.cd p1 (p2-Z2) p3 ad).2.2.2≠0 then S.refuse f (S.tb.cd p1 (p2-Z2) p3 ad).2.2.2 else S.opened f (S.tb.cd p1 (p2-Z2) p3 ad))=_ from by rw[Dq]]at hx;clear Dq;generalize S.tb.cd p1 (p2-Z2) p3 ad=oo at *
 obtain ⟨tb,⟨x0,x1,x2,x3,x4⟩,tk,oe⟩:=oo;unfold Uf Xr Mp.enc at hO;dsimp only at hO hx nR Bv;have aE:=Tb.au nR;have oZ:tb.enc.take 30=tb.enc:=take_of_length_le (by rw[aE];decide);refine Qd (An @e1 @e2) ?_;refine Qj hO (An @e1 (An @e2 (An @aE @oZ))) ?_;refine Qd (An @aE @oZ) ?_;refine Qc ?_ ?_<;>intro h9
 ·rw[am h9]at hx;have jk:=jk oe;rw[hx]at jk;clear hx;obtain ⟨⟨r1,r2,r3,r4⟩,S2⟩:=x;unfold Xn yB Ac.enc Rp.enc at jk;dsimp only at jk;rw[hF]at jk;refine Qa ?_
  ((first|refine Kn (ins:=[0,1,2,3,4,6]) jk ?_ ?_|refine Jb (ins:=[0,1,2,3,4,6]) jk ?_ ?_|refine Ja (ins:=[0,1,2,3,4,6]) jk ?_ ?_|refine Zg (ins:=[0,1,2,3,4,6]) jk ?_ ?_)<;>(have aQ:=@uN;have bu:=@eI;have bO:=@Xb;have cy:=@Qu;refine XG ?_;clear aQ bu bO cy;(try first|exact rfl|exact True.intro);((try with_reducible and_intros);all_goals try first|refine zm ?_|exact CL)))
  ·decide
  refine hR _ ?_;unfold Rp.enc;refine Qa ?_;exact ⟨(),To.ia 1 2 aJ av rfl rfl rfl (by simp[Qs,Qe,ah,look,aB,ay])⟩
 obtain rfl:=h9;rw[aa av]at hx;obtain ⟨Tw,nd,jY,vt⟩:=Bv rfl;have Tw:=Tw (Wr p1);have Tt:=NS.yC hw nR 1 2;obtain ⟨z1,z2,z3,z4,z5,z6,-⟩:=({ S with tb:=tb }:NS).nU nR 1 2;have il:=C5 c.gl x4 (by have:=nd.port;dsimp only at this;omega);have Hc:=Xt9 c.gl p1 [.int .i64 p2,.int .i64 p3,.int .i64 p4,.int .i64 p5,.int .i64 p6,.int .i64 p7,.int .i64 p8,.int .i64 p9,.int .i64 dh,.int .i64 di,.str pb] rfl;have pZ:NB ({ S with tb:=tb }:NS):=hS.toNJ.nb.pS nR;unfold lV at il;have jl:=fun es:List Ev=>Qu8 c.gl (({ S with tb:=tb }:NS).log es) ⟨nR,hS.ids,hS.c4,hS.now,hS.lq⟩ (by show S.bH<=_;omega) (by show S.fl.length<=_;omega) ⟨⟨x0,x1,x2,x3,x4⟩,p4,p5,Wr p1,0,0⟩;have gH:∀ es:List Ev,(({ S with tb:=tb }:NS).log es).aA=F/\(({ S with tb:=tb }:NS).log es).keys=S.keys:=fun es=>⟨hF,rfl⟩
 unfold Xn Fl.enc Zj at jl;dsimp only at jl;simp only[gH]at jl;have vH:(∀ S':NS,ah 3 (S'.cR 1 2))/\(∀ l,ah 3 (bJ l))/\(∀ S':NS,ah 5 (S'.cR 3 4))/\(∀ l,ah 5 (bJ l))/\(∀ S':NS,ah 4 (S'.cR 1 2))/\(∀ l,ah 4 (bJ l)):=⟨fun _=>NS.dI aJ aJ,fun l=>Kr 3 l,fun _=>NS.dI aJ aJ,fun l=>Kr 5 l,fun _=>NS.dI aJ aJ,fun l=>Kr 4 l⟩
 have Hw:∀ ρ,(∀ S':NS,ay ρ (S'.cR 1 2)=S'.cR (ρ 1) (ρ 2))/\∀ S':NS,ay ρ (S'.cR 3 4)=S'.cR (ρ 3) (ρ 4):=fun ρ=>⟨fun S'=>NS.da (S:=S') ρ,fun S'=>NS.da (S:=S') ρ⟩
 have b9:∀ es:List Ev,x=(({ S with tb:=tb }:NS).begin ⟨⟨x0,x1,x2,x3,x4⟩,p4,p5,Wr p1,0,0⟩).ff f ⟨x0,x1,x2,x3,x4⟩ es→∀ t h n F1 I1,look t 2=.ptr 3 0→look t 3=.ptr 4 0→look t 4=.ptr 5 0→look t 7=.ptr 7 0→look t 10=.ptr 8 0→look t 11=.str (nP S.told es)→F1≠I1∧(F1=1∨9≤F1)∧(I1=2∨9≤I1) →
   Qb h n 0=.cells (((({ S with tb:=tb }:NS).log es).begin ⟨⟨x0,x1,x2,x3,x4⟩,p4,p5,Wr p1,0,0⟩).cR F1 I1)->Qb h n F1=.cells (bJ ((({ S with tb:=tb }:NS).log es).begin ⟨⟨x0,x1,x2,x3,x4⟩,p4,p5,Wr p1,0,0⟩).aA)->Qb h n I1=.cells (Ql ((({ S with tb:=tb }:NS).log es).begin ⟨⟨x0,x1,x2,x3,x4⟩,p4,p5,Wr p1,0,0⟩).keys) ->
   Qb h n 3=.cells [.ptr 0 0]->Qb h n 4=.cells [.int .i64 ak,.int .i64 an,.int .i64 ad,.str f]->Qb h n 5=.cells [.int .i64 0,.str [],.bool false,.str []]->Qb h n 7=.cells [.int .i64 p1,.int .i64 p2,.int .i64 p3,.int .i64 p4,.int .i64 p5,.int .i64 p6,.int .i64 p7,.int .i64 p8,.int .i64 p9,.int .i64 dh,.int .i64 di,.str pb]->Qb h n 8=.cells [.int .i64 x0,.int .i64 x1,.int .i64 x2,.int .i64 x3,.int .i64 x4]->Q' .normal ⟨t,h,n⟩ :=
  fun es hx t h n F1 I1 k2 k3 k4 k7 jF wC d b0 b1 b2 b3 b4 b5 b7 b8=>hQ ⟨t,h,n,F1,I1,⟨x0,x1,x2,x3,x4⟩,es,_⟩ ⟨hx,Tw,by show S.bH+1<=_;omega,nd,k2,k3,k4,k7,jF,wC,d,b0,b1,b2,b3,b4,b5,b7,b8⟩
 clear hQ hR Bv hO hP uN wM uF iv hM HD Hv;refine Qd (An @e1 (An @aE (An @oZ @Tt))) ?_;refine Qc ?_ ?_<;>intro fR
 ·obtain rfl:=fR;rw[am rfl]at hx;have pX:=Xdw c.gl { S with tb:=tb } nR (by show S.told<=_;omega) [({ S with tb:=tb }:NS).ev ⟨x0,x1,x2,x3,x4⟩ false] av fun e he=>by
   obtain rfl:=List.mem_singleton.1 he;exact ⟨jY,rfl⟩
  have jl:=jl [({ S with tb:=tb }:NS).ev ⟨x0,x1,x2,x3,x4⟩ false];have b9:=b9 _ hx.symm;rw[show Xj [({ S with tb:=tb }:NS).ev ⟨x0,x1,x2,x3,x4⟩ false]=[.int .i64 S.now,.int .i64 (p2-Z2),.int .i64 x3,.int .i64 (Xd x4),.bool false] by rw[<- vt];rfl]at pX;generalize dj:[({ S with tb:=tb }:NS).ev ⟨x0,x1,x2,x3,x4⟩ false]=es at *
  have Tx:es.length=1:=by rw[<- dj];rfl
  unfold Xn at pX;rw[Tx,(gH es).1,(gH es).2,show ({ S with tb:=tb }:NS).aA=F from hF,show ({ S with tb:=tb }:NS).keys=S.keys from rfl]at pX;refine Qa ?_;refine Qj il (An @z1 @z6) ?_;refine Qd (An @z1 @z6) ?_;refine Yp (An @z1 @z6) ?_
  ((first|refine Kn (ins:=[0,1,2,11]) pX ?_ ?_|refine Jb (ins:=[0,1,2,11]) pX ?_ ?_|refine Ja (ins:=[0,1,2,11]) pX ?_ ?_|refine Zg (ins:=[0,1,2,11]) pX ?_ ?_)<;>(have aQ:=@vH;have bu:=@Hw;have bO:=@Xb;have cy:=@Qu;refine XG ?_;clear aQ bu bO cy;(try first|exact rfl|exact True.intro);((try with_reducible and_intros);all_goals try first|refine zm ?_|exact CL)))
  ·decide
  refine Xc Hc ?_
  ((first|refine Kn (ins:=[0,1,2]) jl ?_ ?_|refine Jb (ins:=[0,1,2]) jl ?_ ?_|refine Ja (ins:=[0,1,2]) jl ?_ ?_|refine Zg (ins:=[0,1,2]) jl ?_ ?_)<;>(have aQ:=@vH;have bu:=@Hw;have bO:=@Xb;have cy:=@Qu;refine XG ?_;clear aQ bu bO cy;(try first|exact rfl|exact True.intro);((try with_reducible and_intros);all_goals try first|refine zm ?_|exact CL)))
  ·decide
  exact b9 _ _ _ 12 13 rfl rfl rfl rfl rfl rfl aJ rfl rfl rfl rfl rfl rfl rfl rfl
 ·obtain rfl:=fR;rw[aa av]at hx;have jl:=jl [];have b9:=b9 _ hx.symm;rw[show ({ S with tb:=tb }:NS).log []={ S with tb:=tb } from rfl]at jl;refine Qa ?_;refine Xc Hc ?_;refine Qa ?_
  ((first|refine Kn (ins:=[0,1,2]) jl ?_ ?_|refine Jb (ins:=[0,1,2]) jl ?_ ?_|refine Ja (ins:=[0,1,2]) jl ?_ ?_|refine Zg (ins:=[0,1,2]) jl ?_ ?_)<;>(have aQ:=@vH;have bu:=@Hw;have bO:=@Xb;have cy:=@Qu;refine XG ?_;clear aQ bu bO cy;(try first|exact rfl|exact True.intro);((try with_reducible and_intros);all_goals try first|refine zm ?_|exact CL)))
  ·decide
  exact b9 _ _ _ 11 12 rfl rfl rfl rfl rfl rfl aJ rfl rfl rfl rfl rfl rfl rfl rfl
def Yd2 (e:Int):PS Tryz.prog gl 65 [.int .i64 e] (.agg [.int .i64 e,.str [],.bool false,.str []]):=by
 have dA:FT Tryz.prog 65 Tryz.f65 (aG Tryz.prog Tryz.f65) [.cell 2 (.ag 4)]:=.of Tryz.func65;refine dA.ps (ap rfl) (by simp[Qe,ah]) fun c hN hg=>?_
 conv in aG _ _=>cbv
 exact Qp
def NS.Ty (h:S.tb.wf)(v f i:Nat):(S.cR f i).set 36 (.int .i64 v)=({ S with bm:=v }:NS).cR f i:=NS.gC h 6 _
def NS.wN (h:S.tb.wf)(f i:Nat):(S.cR f i).take 21=S.tb.ai.enc:=by
 rw[<- Tb.cZ h,<- NS.yx h (f:=f) (i:=i),List.take_take];rfl
def NS.wO (h:S.tb.wf){p:aq}(hp:p.wf)(f i:Nat):Ym (S.cR f i) 0 p.enc=({ S with tb:={ S.tb with ai:=p } }:NS).cR f i:=by
 unfold Ym NS.cR Tb.enc Tb.hd;rw[List.take_zero,nil_append,Nat.zero_add,aq.au hp,<- aq.au h.ai,append_assoc,append_assoc,append_assoc,List.drop_left];simp[NS.uQ]
def Xyl (p:aq)(a:Int)(b:Bool)(h:(p.drain a b).2≠0):(p.drain a b).1=p:=by
 unfold aq.drain at h ⊢
 (repeat' split)<;>first|rfl|(simp_all;done)
def Yf4 (S:NS)(hK:NK S)(a:Ac)(hf:a.frame.length<=140737488351232):GD Tryz.prog gl 27 [.ptr 0 0,.agg a.enc] (Xn S) 3 [0] (.agg (S.step a).1.enc) (Xn (S.step a).2):=by
 have dA:FT Tryz.prog 27 Tryz.f27 (aG Tryz.prog Tryz.f27) [.cell 4 (.ag 4)]:=.of Tryz.func27;obtain ⟨ak,an,ad,f⟩:=a;obtain ⟨x,hx⟩:∃ x,S.step ⟨ak,an,ad,f⟩=x:=⟨_,rfl⟩
 rw[hx];unfold Ac.enc;unfold NS.step at hx;dsimp only at hf hx ⊢;refine dA.gq (ap rfl) (Bq S) av fun c bf hg=>?_;subst hg
 conv in aG _ _=>cbv
 have hw:=hK.wf;have Tv:=hK.act;obtain ⟨e1,e2,e3,e4,e5,e6,e7,e8,e9,Br⟩:=S.nU hw 1 2;have br:∀ e,kS Tryz.prog c .cC [.cl 65 [],.int .i64 e] (.agg [.int .i64 e,.str [],.bool false,.str []]):=fun e=>Jr (caps:=[]) (Yd2 c.gl e) (by simp[ah,Qe]);obtain ⟨Z,hZ,hz⟩:∃ Z:Int,(549755813888:Int)=Z/\0<=Z/\Z<=1099511627776:=⟨_,rfl,by decide,by decide⟩
 rw[hZ];obtain ⟨S1,uO⟩:∃ S1:NS,{ S with bm:=S.bm+1 }=S1:=⟨_,rfl⟩
 have HE:NI S1:=by rw[<- uO];exact hK.toNI.lE (S.bm+1)
 have nK:S1.bH<=90000:=by rw[<- uO];have:=hK.nx;show S.bH<=_;omega
 have htd:S1.told<=90000:=by rw[<- uO];have:=hK.uL;show S.told<=_;omega
 have fV:=HE.wf;have HF:=NS.Ty hw (S.bm+1) 1 2;rw[uO]at HF;replace hx:(if 300<=S.bm then (bN 6,S) else if ak=1 then S1.out f ad else if ak=2 then S1.aH f else if ak=3 then S1.tick an else if ak=4\/ak=5 then (bN (S1.tb.ai.drain an (decide (ak=4))).2,if (S1.tb.ai.drain an (decide (ak=4))).2=0 then { S1 with tb:={ S1.tb with ai:=(S1.tb.ai.drain an (decide (ak=4))).1 } } else S1) else (bN 4,S1))=x:=by rw[<- uO];exact hx
 have dY:(S.bm:Int)+1=((S.bm+1:Nat):Int):=by omega
 obtain ⟨g1,g2,g3,g4,g5,g6,g7,g8,g9,g10⟩:=S1.nU fV 1 2;have ei:bJ S.aA=bJ S1.aA/\Ql S.keys=Ql S1.keys:=by rw[<- uO];exact ⟨rfl,rfl⟩
 have fe:=HE.now;have Hu:(∀ S':NS,ah 5 (S'.cR 1 2))/\∀ l,ah 5 (bJ l):=⟨fun _=>NS.dI aJ aJ,fun l=>Kr 5 l⟩
 have eI:=fun (S:NS) ρ=>NS.da (S:=S) (f:=1) (i:=2) ρ;have H2:∀ S':NS,HL ([(4,.cells [.int .i64 0,.str [],.bool false,.str []]),(3,.cells [.int .i64 ak,.int .i64 an,.int .i64 ad,.str f])]++Xn S') 5:=fun S'=>((Kg S').more (by simp[bX,ah,Qe])).more (by simp[bX,ah,Qe]);have Bw:cG id [0] 5 0=0:=rfl;unfold Xn;refine Qd (An @e1 @e9) ?_;refine Qc ?_ ?_<;>intro h1
 ·rw[am af]at hx;subst hx;have hn:=br 6;unfold bN Rp.enc;refine Qa ?_;refine Xc hn ?_;exact ⟨(),To.ia 1 2 aJ av rfl rfl rfl (by simp[Qs,Qe,ah,look,aB,ay])⟩
 rw[aa af]at hx;refine Qd (An @e1 (An @e9 (An @dY @HF))) ?_;refine Qc ?_ ?_<;>intro h2
 ·rw[am h2]at hx;have ho:=Ycv c.gl S1 HE nK htd ak an ad f hf;rw[hx]at ho;obtain ⟨⟨r1,r2,r3,r4⟩,S2⟩:=x;unfold Rp.enc at ho ⊢;dsimp only at ho ⊢;refine Qa ?_;refine qk (p:=[0]) (s':=⟨[(4,.ptr 4 0),(26,.ptr 0 0),(27,.agg [.int .i64 ak,.int .i64 an,.int .i64 ad,.str f])],[(4,.cells [.int .i64 0,.str [],.bool false,.str []]),(3,.cells [.int .i64 ak,.int .i64 an,.int .i64 ad,.str f])]++Xn S1,5⟩) bf (To.sub (ρ:=[]) rfl ?_) ?_
  ·unfold Xn;exact Qi (An @ei (An @Hu (An @eI (An @Xb @Qu))))
  refine uJ (v:=false) (pp:=[0]) (ex:=[(4,_),(3,_)]) (s3:=⟨[(4,.ptr 4 0),(28,.agg [.int .i64 r1,.str r2,.bool r3,.str r4])],[(4,.cells [.int .i64 0,.str [],.bool false,.str []]),(3,.cells [.int .i64 ak,.int .i64 an,.int .i64 ad,.str f])]++Xn S2,5⟩) bf ho (Kg S1) (Kg S2) (by simp[Qe,ah]) aJ av av rfl ?_ ?_ ?_
  ·exact Qi @Yl
  ·unfold Ju;refine To.rM (H2 S2) aJ aJ av av av (fun b h1 h2=>?_) ?_
   ·rcases (by omega:b=3\/b=4) with rfl|rfl<;>rfl
   ·simp[Qs,Qe,ah,look,aB,ay,lw,Bw]
  refine Qa ?_;exact ⟨(),To.ia 1 2 aJ av rfl rfl rfl (by simp[Qs,Qe,ah,look,aB,ay])⟩
 rw[aa h2]at hx;refine Qa ?_;refine Qc ?_ ?_<;>intro h3
 ·rw[am h3]at hx;have ho:=Xmg c.gl S1 HE af f hf;rw[hx]at ho;obtain ⟨⟨r1,r2,r3,r4⟩,S2⟩:=x;unfold Rp.enc at ho ⊢;dsimp only at ho ⊢;refine Qa ?_;refine qk (p:=[0]) (s':=⟨[(4,.ptr 4 0),(31,.ptr 0 0),(33,.str f)],[(4,.cells [.int .i64 0,.str [],.bool false,.str []]),(3,.cells [.int .i64 ak,.int .i64 an,.int .i64 ad,.str f])]++Xn S1,5⟩) bf (To.sub (ρ:=[]) rfl ?_) ?_
  ·unfold Xn;exact Qi (An @ei (An @Hu (An @eI (An @Xb @Qu))))
  refine uJ (v:=false) (pp:=[0]) (ex:=[(4,_),(3,_)]) (s3:=⟨[(4,.ptr 4 0),(34,.agg [.int .i64 r1,.str r2,.bool r3,.str r4])],[(4,.cells [.int .i64 0,.str [],.bool false,.str []]),(3,.cells [.int .i64 ak,.int .i64 an,.int .i64 ad,.str f])]++Xn S2,5⟩) bf ho (Kg S1) (Kg S2) (by simp[Qe,ah]) aJ av av rfl ?_ ?_ ?_
  ·exact Qi @Yl
  ·unfold Ju;refine To.rM (H2 S2) aJ aJ av av av (fun b h1 h2=>?_) ?_
   ·rcases (by omega:b=3\/b=4) with rfl|rfl<;>rfl
   ·simp[Qs,Qe,ah,look,aB,ay,lw,Bw]
  refine Qa ?_;exact ⟨(),To.ia 1 2 aJ av rfl rfl rfl (by simp[Qs,Qe,ah,look,aB,ay])⟩
 rw[aa h3]at hx;refine Qa ?_;refine Qc ?_ ?_<;>intro h4
 ·rw[am h4]at hx;by_cases hd:an < 1∨549755813888 - S1.now < an
  ·have e:S1.tick an=(bN 2,S1):=am hd;rw[e]at hx;subst hx;have hn:=br 2;unfold bN Rp.enc;by_cases d1:an < 1
   ·have f1:decide (an < 1)=true:=decide_eq_true d1
    (have aQ:=@g1;have bu:=@g6;have bO:=@f1;refine XG ?_;clear aQ bu bO;((try with_reducible and_intros);all_goals try first|refine zm ?_|exact CL))
    all_goals try (intro h;first|(cases h;done)|(simp_all;done))
    refine Yc ?_;refine Qa ?_;refine Xc hn ?_;exact ⟨(),To.ia 1 2 aJ av rfl (congrArg Bk.cells ei.1) (congrArg Bk.cells ei.2) (by simp[Qs,Qe,ah,look,aB,ay])⟩
   ·have f1:decide (an < 1)=false:=decide_eq_false d1;refine Qd (An @g1 (An @g6 @f1)) ?_;all_goals try (intro h;first|(cases h;done)|(simp_all;done))
    refine Qc ?_ ?_<;>intro h5
    ·refine Qa ?_;refine Xc hn ?_;exact ⟨(),To.ia 1 2 aJ av rfl (congrArg Bk.cells ei.1) (congrArg Bk.cells ei.2) (by simp[Qs,Qe,ah,look,aB,ay])⟩
    ·omega
  have ht:=Xyh c.gl S1 HE htd an hd;have f1:decide (an<1)=false:=decide_eq_false af;rw[hx]at ht;obtain ⟨⟨r1,r2,r3,r4⟩,S2⟩:=x;unfold Rp.enc at ht ⊢;dsimp only at ht ⊢;refine Qd (An @g1 (An @g6 @f1)) ?_;all_goals try (intro h;first|(cases h;done)|(simp_all;done))
  refine Qc ?_ ?_<;>intro h5
  ·omega
  refine Qa ?_;refine qk (p:=[0]) (s':=⟨[(4,.ptr 4 0),(52,.ptr 0 0),(54,.int .i64 an)],[(4,.cells [.int .i64 0,.str [],.bool false,.str []]),(3,.cells [.int .i64 ak,.int .i64 an,.int .i64 ad,.str f])]++Xn S1,5⟩) bf (To.sub (ρ:=[]) rfl ?_) ?_
  ·unfold Xn;exact Qi (An @ei (An @Hu (An @eI (An @Xb @Qu))))
  refine uJ (v:=false) (pp:=[0]) (ex:=[(4,_),(3,_)]) (s3:=⟨[(4,.ptr 4 0),(55,.agg [.int .i64 r1,.str r2,.bool r3,.str r4])],[(4,.cells [.int .i64 0,.str [],.bool false,.str []]),(3,.cells [.int .i64 ak,.int .i64 an,.int .i64 ad,.str f])]++Xn S2,5⟩) bf ht (Kg S1) (Kg S2) (by simp[Qe,ah]) aJ av av rfl ?_ ?_ ?_
  ·exact Qi @Yl
  ·unfold Ju;refine To.rM (H2 S2) aJ aJ av av av (fun b h1 h2=>?_) ?_
   ·rcases (by omega:b=3\/b=4) with rfl|rfl<;>rfl
   ·simp[Qs,Qe,ah,look,aB,ay,lw,Bw]
  refine Qa ?_;exact ⟨(),To.ia 1 2 aJ av rfl rfl rfl (by simp[Qs,Qe,ah,look,aB,ay])⟩
 rw[aa h4]at hx;have kr:List.take 21 (S1.cR 1 2)=S1.tb.ai.enc:=NS.wN fV 1 2;have hDr:∀ b,PS Tryz.prog c.gl 69 [.agg S1.tb.ai.enc,.int .i64 an,.bool b] (Km (S1.tb.ai.drain an b)):=fun b=>Xpq c.gl S1.tb.ai fV.ai an b;have wJ:=fun b=>aq.eF S1.tb.ai fV.ai an b;have Dy:=Xyl S1.tb.ai an;have hbq:(ak==4)=decide (ak=4):=by by_cases h:ak=4<;>simp[h]
 refine Qa ?_;refine Qc ?_ ?_<;>intro h5;rotate_left;refine Qa ?_;refine Qc ?_ ?_<;>intro h6;rotate_left
 ·rw[aa af]at hx;subst hx;have hn:=br 4;unfold bN Rp.enc;refine Qa ?_;refine Xc hn ?_;exact ⟨(),To.ia 1 2 aJ av rfl (congrArg Bk.cells ei.1) (congrArg Bk.cells ei.2) (by simp[Qs,Qe,ah,look,aB,ay])⟩
 refine Qc ?_ ?_<;>intro h8;rotate_left
 ·exact absurd h5 h8
 all_goals
  rw[am af]at hx;have hD:=hDr (decide (ak=4));have wJ:=wJ (decide (ak=4));have Dy:=Dy (decide (ak=4));generalize S1.tb.ai.drain an (decide (ak=4))=d at *
  obtain ⟨dp,de⟩:=d;unfold Km at hD;dsimp only at hD wJ Dy hx;obtain rfl:(bN de,{ S1 with tb:={ S1.tb with ai:=dp } })=x:=by
   rw[<- hx];congr 1;split
   ·rfl
   ·rename_i h;rw[Dy h]
  have kg:=aq.au wJ;have pD:dp.enc.take 21=dp.enc:=take_of_length_le (by rw[kg];decide);have sT:=NS.wO fV wJ 1 2;have hn:=br de;refine Qd (An @g1 (An @kr @hbq)) ?_;refine Qj hD (An @g1 (An @kr (An @kg @pD))) ?_;refine Qd (An @g1 (An @kg (An @pD @sT))) ?_;refine Xc hn ?_;unfold bN Rp.enc;exact ⟨(),To.ia 1 2 aJ av rfl (congrArg Bk.cells ei.1) (congrArg Bk.cells ei.2) (by simp[Qs,Qe,ah,look,aB,ay])⟩
def Ye7 (b:Bool)(l:List Ac)(hl:Ht l)(i:Nat):GD Tryz.prog gl 27 [.ptr 0 0,.agg (l.getD i tH).enc] (Xn (Xx b l i)) 3 [0] (.agg (Hs b l i).enc) (Xn (Xx b l (i+1))) :=
 Yf4 gl (Xx b l i) (Dt b l i) (l.getD i tH) (Qtj hl i)
section
variable {P:Program}{c:Cx}{ex h1 h2 mz nA:List (Nat×Bk)}{σ τ:Nat->Nat}{m k n:Nat}
def Xar {v:Bool}{d:Option Nat}{kk:PK}{f:FuncId}{xs:List TV}{args:List AV}{p:List Nat}{r:AV}{t:List (Nat×AV)}{gd:Option (Nat×Bool)}{anc:List Nat}{fs:List bc}{r0:List bB}{K:St->Prop}(hq:GD P c.gl f args h2 k p r nA)(F:Fm ex τ h2 k σ h1 m n)(hp:∀ b ∈ p,b<k)
  (hb:gB (⟨t,(ex++Qq τ h2)++Qq σ h1,n⟩:St).fs gd=some true/\gg (⟨t,(ex++Qq τ h2)++Qq σ h1,n⟩:St).fs gd)
  (hc:Qr none (aD c.gl (⟨t,(ex++Qq τ h2)++Qq σ h1,n⟩:St).fs xs)/\lP v f ((aD c.gl (⟨t,(ex++Qq τ h2)++Qq σ h1,n⟩:St).fs xs).map Qh)=some (f,ay τ args)/\ah k args) (hk:kk=(bif v then .cC else .call f)) (dS:HL nA k) (hr:Qe k r)
  (h:XD P c anc r0 (⟨jQ gd++Xe xs,eU τ k n,d.toList,eU τ k n⟩::fs) K (yd t ex nA τ p k σ h1 n d r)):Yz P c anc (.pd d kk xs gd) r0 fs K ⟨t,(ex++Qq τ h2)++Qq σ h1,n⟩ :=
 ⟨_,_,IW hb.1 hb.2 (Qwc hq F hp hc hk dS hr),h⟩
def Yem {σ:Nat->Nat}{m n j:Nat}(h:iZ σ m j)(hj:j<n):¬ j ∈ eU σ m n:=fun hm=>by
 rcases ud.1 hm with ⟨b,hb,e⟩|⟨b,hb,e⟩
 ·exact h b hb e
 ·omega
def HH {σ:Nat->Nat}{m n j:Nat}(h:iZ σ m j)(hj:j<n):∀ x,x ∈ eU σ m n->¬ x=j:=fun x hx e=>Yem h hj (e ▸ hx)
end
structure PW where
 i:Nat
 τ:Nat->Nat
 σ:Nat->Nat
 n:Nat
noncomputable def PW.h (b:Bool)(l:List Ac)(Ts:Nat->WT)(y:PW):List (Nat×Bk):=([]++Qq y.τ (Qn (Xx b l y.i) (Ts y.i)))++Qq y.σ (Xn (Xx b l y.i))
structure PK2 (b:Bool)(l:List Ac)(Ts:Nat->WT)(y:PW):Prop where
 fm:Fm [] y.τ (Qn (Xx b l y.i) (Ts y.i)) 70 y.σ (Xn (Xx b l y.i)) 3 y.n
 t:y.τ 67=67
 s:y.σ 0=70
 i:y.i<=Zb l
def Tz {ex h2:List (Nat×Bk)}{τ σ:Nat->Nat}{k n:Nat}  (F:Fm ex τ h2 k σ (Xn S) 3 n)(h:σ 0=70)(n':Nat):Qb ((ex++Qq τ h2)++Qq σ (Xn S)) n' 70=.cells (S.cR (σ 1) (σ 2))/\Qb ((ex++Qq τ h2)++Qq σ (Xn S)) n' (σ 1)=.cells (bJ S.aA):=by
 have e:∀ b,b<3->Qb ((ex++Qq τ h2)++Qq σ (Xn S)) n' (σ b)=Qw σ (Qb (Xn S) 3 b):=fun b hb=>by
  rw[Xl fun q hq e=>(F.exL q hq).1 b hb e.symm];exact Ku F.i1 hb (fun q hq=>((Kg S).mem q hq).1) ((Kg S).jV b hb)
 constructor
 ·rw[<- h,e 0 aJ];show Bk.cells (ay σ (S.cR 1 2))=_;rw[NS.da]
 ·rw[e 1 aJ];exact (SX σ _).symm
def Qnx (h0:gl 0=.xp (Ql Xy) 0)(b:Bool)(l:List Ac)(hl:Ht l)(hlen:l.length<=140737488351232):PS Tryz.prog gl 5 [.bool b,.isl l.length (uP l)] (.bool true):=by
 have dA:FT Tryz.prog 5 Tryz.f5 (aG Tryz.prog Tryz.f5) [.t 4]:=.of Tryz.func5;obtain ⟨Ts,Oj,hts,hdo⟩:=Yb1 gl h0 b l hl;have qK:∀ i,(Ts i).wf:=fun i=>by
  obtain ⟨D,hD⟩:=hts i;exact hD.1.wf
 have cz:=Ybj gl b;rw[<- Oj]at cz;have HI:=Ybr gl b;refine dA.ps (ap rfl) (by simp[Qe]) fun c hN hg=>?_;subst hg
 conv in aG _ _=>cbv
 have aY:=Ydb l;have iX:=fun n j hj=>Ko (S:=NS.new b) (qK 0) n j hj;refine Qa ?_;refine RZ cz (Qo (qK 0)) ?_ av ?_
 ·exact Qp
 dsimp only[nil_append];rw[Yjd];refine Qd @iX ?_;refine RZ HI (Kg _) ?_ (fun q hq=>((Qo (qK 0)).mem q hq).1) ?_
 ·exact Qp
 refine Qa ?_;refine Yc ?_;refine Qa ?_;have hF0:Fm [] (fun b=>b) (Qn (Xx b l 0) (Ts 0)) 70 (fun b=>70+b) (Xn (Xx b l 0)) 3 73:=⟨fun b b' _ _ e=>by omega,fun b hb=>by omega,Kg _,fun b b' _ _ e=>e,fun b hb=>by omega,Qo (qK 0),fun b hb b' bL e=>by omega,fun q hq=>by cases hq⟩
 refine Yn (PK2 b l Ts) (fun y=>⟨[(1,.isl l.length (uP l)),(5,.ptr 67 0),(6,.ptr 70 0),(7,.int .i64 y.i)],y.h b l Ts,y.n⟩) (fun y=>Zb l - y.i) dA.mixed [] (by rw[hN];simp)
  ⟨⟨0,fun b=>b,fun b=>70+b,73⟩,⟨hF0,rfl,rfl,Nat.zero_le _⟩,To.fK (by exact Qp) fun b'=>?_⟩ fun y hy=>?_
 ·unfold PW.h;dsimp only;rw[show (fun b:Nat=>b)=id from rfl,Wd];rfl
 obtain ⟨i,τ,σ,n⟩:=y;obtain ⟨hF,ht,hs,hi⟩:=hy;unfold PW.h;dsimp only at hF ht hs hi ⊢;have kg:Zb l<=l.length/\Zb l<=100:=⟨Nat.min_le_left _ _,Nat.min_le_right _ _⟩
 refine Qa ?_;refine Qc ?_ ?_<;>intro h2
 ·have mR:i < l.length:=by omega
  have jY:=Ydf l mR;have hd:=hdo i;have iy:=Ye7 c.gl b l hl i;obtain ⟨D1,uI,_⟩:=hts (i+1);have fe:=Yec c.gl (Xx b l (i+1)) (Ts (i+1)) D1 (Dt b l (i+1)).toNJ uI;have lH:=Qo (S:=Xx b l (i+1)) (qK (i+1));have HJ:=Kg (Xx b l (i+1));have yG:=hF.m8 [67] lH;have tC:cG τ [67] n 67=67:=by rw[Ks av];exact ht
  have HM:=yG.yc [0] HJ;have ij:cG σ [0] (n+70) 0=70:=by rw[Ks av];exact hs
  have sK:i<Zb l:=by unfold Zb;omega
  have heq:=@Yao c true (Hs b l i);generalize l.getD i tH=a at *
  obtain ⟨a1,a2,a3,a4⟩:=a;generalize Hs b l i=r at *
  obtain ⟨r1,r2,r3,r4⟩:=r;dsimp only[Ac.enc,Rp.enc]at jY hd iy heq;refine Qd (An @aY @jY) ?_;refine Xe9 (v:=false) (ex:=[]) hd hF av ?_ rfl lH (by simp[Qe,ah]) ?_
  ·exact Qi (An @Yl @ht)
  unfold yd;rw[Ue (by simp[Qe,ah])];generalize cG τ [67] n=τ1 at *
  refine Qd (An @aY @jY) ?_;refine Ydc (v:=false) (ex:=[]) iy yG av ?_ rfl HJ (by simp[Qe,ah]) ?_
  ·exact Qi (An @Yl @hs)
  unfold Ju;rw[Ue (by simp[Qe,ah])];generalize cG σ [0] (n+70)=σ1 at *
  refine Qa ?_;refine Qj heq (An @aY @jY) ?_;refine Qa ?_;refine Xar (v:=false) (ex:=[]) fe HM (fun b hb=>mem_range.1 hb) ?_ ?_ rfl lH (by simp[Qe]) ?_
  ·exact Qp
  ·exact Qi (An @Yl @tC)
  unfold yd;rw[Ue (by simp[Qe])];have hFc:=HM.m8 (List.range 70) lH;have Ms:cG τ1 (List.range 70) (n+70+3) 67=67:=by rw[Ks av];exact tC
  have hg:=HH (σ:=τ1) (m:=70) (n:=n+70+3) (j:=70) (fun b hb e=>HM.c4 0 aJ b hb (by rw[ij];exact e.symm)) af;generalize cG τ1 (List.range 70) (n+70+3)=τ2 at *
  have lK:∀ n',Qb (Qq τ2 (Qn (Xx b l (i+1)) (Ts (i+1)))++Qq σ1 (Xn (Xx b l (i+1)))) n' 70=.cells ((Xx b l (i+1)).cR (σ1 1) (σ1 2)):=fun n'=>(Tz hFc ij n').1;obtain ⟨v1,v2,v3,v4,v5,v6,-⟩:=(Xx b l (i+1)).nU (Dt b l (i+1)).wf (σ1 1) (σ1 2)
  (have aQ:=@lK;have bu:=@v1;have bO:=@v6;refine XG ?_;clear aQ bu bO;((try with_reducible and_intros);all_goals try first|refine zm ?_|exact CL))
  ·generalize eU τ1 70 (n + 70 + 3)=G1 at *
   generalize eU σ 3 (n+70)=G2 at *
   generalize eU τ 70 n=G3 at *
   simp[Wp,Wl,cJ]
   (repeat' refine And.intro ?_ ?_)<;>first|decide|exact hg|exact Or.inl hg|(right;decide)
  refine Yc ?_;refine Qa ?_;exact ⟨⟨i+1,τ2,σ1,n+70+3+70⟩,⟨hFc,Ms,ij,sK⟩,To.fK (by exact Qp) fun b=>rfl,by dsimp only;omega⟩
 ·obtain rfl:i=Zb l:=by unfold Zb at hi ⊢;omega
  have hK:=Dt b l (Zb l);have lH:=Qo (S:=Xx b l (Zb l)) (qK (Zb l));have hT:=Xq8 c.gl (Xx b l (Zb l)) (Ts (Zb l)) hK.toNJ (qK _);have hFw:=Xoq c.gl (Xx b l (Zb l)) (Ts (Zb l)) hK.toNJ (qK _);have hlf:(Xx b l (Zb l)).aA.length<=48:=by have:=hK.len;unfold NS.aA;rw[length_map];exact this
  have hSF:=Xmm c.gl (Xx b l (Zb l)).aA af;have hST:=Xuz c.gl (Xx b l (Zb l)).tb hK.wf (by have:=uz (Kb.2 hK.gt);omega);obtain ⟨v1,v2,v3,-⟩:=(Xx b l (Zb l)).nU hK.wf (σ 1) (σ 2);have ib:(Xx b l (Zb l)).fl.length=(Xx b l (Zb l)).aA.length:=by simp[NS.aA]
  rw[ib]at v3;have aK:((bJ (Xx b l (Zb l)).aA).drop 0).take ((Xx b l (Zb l)).aA.length*10)=bJ (Xx b l (Zb l)).aA:=by rw[List.drop_zero,take_of_length_le (by rw[rO];exact Nat.le_refl _)]
  have hfe:=rO (Xx b l (Zb l)).aA;have jB:=fun n=>Kr n (Xx b l (Zb l)).aA;have yG:=hF.m8 (List.range 70) lH;have tC:cG τ (List.range 70) n 67=67:=by rw[Ks av];exact ht
  have HM:=yG.m8 (List.range 70) lH;have aE:=Tb.au hK.wf;refine Qa ?_;refine Xe9 (v:=false) (ex:=[]) hT hF (fun b hb=>mem_range.1 hb) ?_ rfl lH (by simp[Qe,Tb.bY]) ?_
  ·exact Qi (An @Yl @ht)
  unfold yd;rw[Ue (by simp[Qe,Tb.bY])];generalize cG τ (List.range 70) n=τ1 at *
  have lK:∀ n',Qb (Qq τ1 (Qn (Xx b l (Zb l)) (Ts (Zb l)))++Qq σ (Xn (Xx b l (Zb l)))) n' 70=.cells ((Xx b l (Zb l)).cR (σ 1) (σ 2)):=fun n'=>(Tz yG hs n').1;refine Qd (An @lK (An @v1 @v2)) ?_;refine Qj hST (An @lK (An @v1 (An @v2 @aE))) ?_;refine Qa ?_;refine Xar (v:=false) (ex:=[]) hFw yG (fun b hb=>mem_range.1 hb) ?_ ?_ rfl lH (by simp[Qe,jB]) ?_
  ·exact Qp
  ·exact Qi (An @Yl @tC)
  unfold yd;rw[Ue (by simp[Qe,jB])];generalize cG τ1 (List.range 70) (n+70)=τ2 at *
  have HO:∀ n',Qb (Qq τ2 (Qn (Xx b l (Zb l)) (Ts (Zb l)))++Qq σ (Xn (Xx b l (Zb l)))) n' 70=.cells ((Xx b l (Zb l)).cR (σ 1) (σ 2))/\Qb (Qq τ2 (Qn (Xx b l (Zb l)) (Ts (Zb l)))++Qq σ (Xn (Xx b l (Zb l)))) n' (σ 1)=.cells (bJ (Xx b l (Zb l)).aA):=fun n'=>Tz HM hs n';refine Qd (An @HO (An @v1 @v3)) ?_
  ((first|apply Wc|apply Jw)<;>(first|exact hSF|(with_reducible exact Ji.bool _)|(have aQ:=@HO;have bu:=@v1;have bO:=@v3;have cy:=@aK;have dc:=@hfe;have eT:=@jB;refine XG ?_;clear aQ bu bO cy dc eT;first|exact rfl|exact True.intro|((try with_reducible and_intros);all_goals try first|refine zm ?_|exact CL))))
  have xV:70<n:=by
   have:=hF.l1 0 aJ;rw[hs]at this;exact this
  have iv:=HH (σ:=τ) (m:=70) (n:=n) (j:=70) (fun b hb e=>hF.c4 0 aJ b hb (by rw[hs];exact e.symm)) xV;have mA:=HH (σ:=τ1) (m:=70) (n:=n+70) (j:=70) (fun b hb e=>yG.c4 0 aJ b hb (by rw[hs];exact e.symm)) af;have hg3:=HH (σ:=τ) (m:=70) (n:=n) (j:=σ 1) (fun b hb e=>hF.c4 1 aJ b hb e.symm) (hF.l1 1 aJ);have hg4:=HH (σ:=τ1) (m:=70) (n:=n+70) (j:=σ 1) (fun b hb e=>yG.c4 1 aJ b hb e.symm) (by have:=hF.l1 1 aJ;omega);generalize eU τ1 70 (n+70)=G1 at *
  generalize eU τ 70 n=G2 at *
  simp[Wp,Wl,cJ]
  (repeat' refine And.intro ?_ ?_)<;>first|decide|exact iv|exact mA|exact hg3|exact hg4|exact Or.inl iv|exact Or.inl mA|exact Or.inl hg3|exact Or.inl hg4|(right;decide)
end Go.Proofs.YtogckmommodmhaaGreatDoor
