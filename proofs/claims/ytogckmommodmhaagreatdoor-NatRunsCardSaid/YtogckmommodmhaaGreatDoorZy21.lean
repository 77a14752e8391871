import Derived.Test.YtogckmommodmhaaGreatDoorZy20
import Derived.Test.YtogckmommodmhaaGreatDoorZy19
import Derived.Test.YtogckmommodmhaaGreatDoorCards
import Derived.Test.YtogckmommodmhaaGreatDoorTie
namespace Go.Proofs.YtogckmommodmhaaGreatDoor
open Go.RowKit
open Go.RowKit Go.ChangeShapes Go.WideShapes Go.Deep
set_option linter.all false
set_option maxHeartbeats 32000000
set_option maxRecDepth 100000
variable (m:Mp)
def Xl5:Yq m m=true:=by unfold Yq;simp
def Qlz {m:Mp}:∀ (l:List Mp) (i:Nat),l.Pairwise (fun x y=>Yq x y=false)->l.findIdx? (fun x=>decide (m=x))=some i->l.filter (fun o=>!decide (o=m))=l.eraseIdx i
 | [],_,_,h=>by simp at h
 | x::l,i,hp,h=>by
  rw[List.findIdx?_cons]at h;obtain ⟨h1,h2⟩:=List.pairwise_cons.1 hp;by_cases hx:m=x
  ·subst hx;simp only[decide_true,if_true,Option.some.injEq]at h;subst h;rw[List.eraseIdx_cons_zero,List.filter_cons_of_neg aw,List.filter_eq_self];intro o ho;have h3:=h1 o ho;by_cases e:o=m
   ·subst e;rw[Xl5]at h3;cases h3
   ·simp[e]
  ·simp only[hx,decide_false,Bool.false_eq_true,if_false]at h;cases hj:l.findIdx? (fun x=>decide (m=x)) with
   | none=>rw[hj]at h;simp at h
   | some j =>
    rw[hj]at h;simp only[Option.map_some,Option.some.injEq]at h;subst h;have I5:¬ x=m:=fun e=>hx e.symm;rw[List.eraseIdx_cons_succ,List.filter_cons_of_pos (by simp[I5]),Qlz l j h2 hj]
def Xqu (gl:Nat->AV)(t:Tb)(ht:t.ok)(hh:Hid (∀ s,s<8->-9223372036854775808<=t.aT s/\t.aT s<=9223372036854775807))(m:Mp)(eG:-9223372036854775808<=m.port/\m.port<=9223372036854775807):PS Tryz.prog gl 118 [.agg t.enc,.agg m.enc] (Wu (t.cls m)):=by
 by_cases hb:Zp t=false
 ·have e:t.cls m=(t,false,2):=am hb;rw[e];exact Xi0 gl t ht hh m hb
 have hg:Zp t=true:=by
  cases h:Zp t
  ·exact (hb h).elim
  ·rfl
 have ep:=(vG t).1 hg
 have e:t.cls m=match t.maps.findIdx? (fun x=>decide (m=x)) with
  | none=>(t,false,7)
  | some i=>if (t.maps.eraseIdx i).any (Jo m)=true then (t.del i,false,0) else ((t.del i).bT m,true,0):=aa hb
 have bl:mM t.maps m t.maps.length=t.maps.any fun o=>decide (o=m):=by unfold mM;rw[List.take_length]
 have jB:nC t.maps m t.maps.length=t.maps.filter fun o=>!decide (o=m):=by unfold nC;rw[List.take_length]
 cases hi:t.maps.findIdx? (fun x=>decide (m=x)) with
 | none =>
  have hn:mM t.maps m t.maps.length=false:=by
   rw[bl,List.any_eq_false];intro o ho;have:=List.findIdx?_eq_none_iff.1 hi o ho;simp only[decide_eq_false_iff_not]at this;simp only[decide_eq_true_eq];exact fun q=>this q.symm
  rw[hi]at e;refine Qt7 gl t ht hh ep m eG _ rfl _ (by rw[Ak];trivial) (Lib.hid fun _=>by rw[e]) (Lib.hid fun h=>?_) (Lib.hid fun h=>?_)
  ·rw[hn]at h;cases h
  ·rw[hn]at h;cases h
 | some i =>
  obtain ⟨kf,xm⟩:=P3 hi;have hn:mM t.maps m t.maps.length=true:=by
   rw[bl,List.any_eq_true];exact ⟨_,List.getElem_mem kf,by simp[xm]⟩
  have hL:nC t.maps m t.maps.length=t.maps.eraseIdx i:=by rw[jB];exact Qlz _ _ (Kv.1 ep).apart hi
  have fa:(t.maps.eraseIdx i).any (Jo m)=true ↔ 0<(t.maps.eraseIdx i).countP (Jo m):=by rw[List.countP_pos_iff,List.any_eq_true]
  rw[hi]at e;dsimp only at e;refine Qt7 gl t ht hh ep m eG _ hL _ (by rw[Ak];trivial) (Lib.hid fun h=>?_) (Lib.hid fun _ h=>?_) (Lib.hid fun _ h=>?_)
  ·rw[hn]at h;cases h
  ·rw[e,am (fa.2 h)];rfl
  ·rw[e,aa (fun q=>h (fa.1 q))];rfl
def Yg7 {t:Tb}(ht:t.wf)(m:Mp):(t.cls m).1.wf/\(t.cls m).1.maps.length<=t.maps.length:=by
 unfold Tb.cls;split
 ·exact ⟨ht,Nat.le_refl _⟩
 split
 ·exact ⟨ht,Nat.le_refl _⟩
 rename_i i hi;have hl:(t.maps.eraseIdx i).length<=t.maps.length:=List.Sublist.length_le (List.eraseIdx_sublist _ _);split
 ·exact ⟨⟨ht.ai,ht.home⟩,hl⟩
 ·have hp:=aq.pw t.ai ht.ai m.s m.a (Xc m.port);unfold Tb.bT;dsimp only;split
  ·exact ⟨⟨hp,by show (t.home.set _ _).length=8;rw[List.length_set];exact ht.home⟩,hl⟩
  ·exact ⟨⟨hp,ht.home⟩,hl⟩
theorem Mp.nm (n:Nat):ah n m.enc=True:=by simp[Mp.enc,ah,Qe]
theorem Mp.co (ρ:Nat->Nat):ay ρ m.enc=m.enc:=by simp[Mp.enc,ay,aA]
attribute [go_sem] Mp.nm Mp.co
end Go.Proofs.YtogckmommodmhaaGreatDoor
namespace Go.Proofs.YtogckmommodmhaaGreatDoor
open List (length_take getElem_mem take_length take_of_length_le any_nil mem_map append_assoc)
open Go.RowKit
set_option linter.all false
set_option maxHeartbeats 32000000
set_option maxRecDepth 100000
variable {S:NS}(gl:Nat->AV)(l:List Fl)(k:Nat)(b:Bool)
def NS.S4 (h:S.tb.wf)(v f i:Nat):(S.cR f i).set 33 (.int .i64 v)=({ S with now:=v }:NS).cR f i:=NS.gg h 3 _
def Xtg (b:Nat)(h:b<l.length):(bZ l).getD (b*10+9) .any=.int .i64 l[b].due/\((bZ l).drop (b*10)).take 5=l[b].map.enc:=by
 have hc:=Hg l b h;constructor
 ·have:(((bZ l).drop (b * 10)).take 10).getD 9 .any=.int .i64 l[b].due:=by rw[hc];rfl
  rw[<- this];simp[List.getD,List.getElem?_take,List.getElem?_drop]
 ·have e:((bZ l).drop (b * 10)).take 5=(((bZ l).drop (b * 10)).take 10).take 5:=by rw[List.take_take];rfl
  rw[e,hc];rfl
def Xed (l:List Int)(b:Nat)(h:b<l.length):(Ql l).getD b .any=.int .i64 l[b]:=by
 simp[Ql,List.getD,h]
def Xoq (h:k<=l.length):(bZ l).take (k*10)=bZ (l.take k):=by
 conv=>lhs;rw[<- List.take_append_drop k l]
 unfold bZ;rw[List.flatMap_append];exact List.take_left' (by have:=Bf (l.take k);unfold bZ at this;rw[this,length_take];omega)
def Xoi (h:k<=l.length):(bZ l).drop (k*10)=bZ (l.drop k):=by
 conv=>lhs;rw[<- List.take_append_drop k l]
 unfold bZ;rw[List.flatMap_append];exact List.drop_left' (by have:=Bf (l.take k);unfold bZ at this;rw[this,length_take];omega)
def Xor (S:NS){b:Nat}(h:b<S.fl.length):S.aX[b]?=some ⟨S.fl[b].1,S.fl[b].2.due.toNat⟩:=by
 unfold NS.aX;rw[List.getElem?_map,List.getElem?_eq_getElem h];rfl
def NS.yq (h:S.tb.wf){t:Tb}(ht:t.wf)(f i:Nat):Yj (S.cR f i) 0 t.enc=({ S with tb:=t }:NS).cR f i:=by
 unfold Yj NS.cR;rw[List.take_zero,List.nil_append,Nat.zero_add,Tb.au ht,<- Tb.au h,List.drop_left];rfl
structure S5 (p:Prop):Prop where
 o:p
def Yje {X G:Prop}(m:S5 X->G)(h:X):G:=m ⟨h⟩
def Xvk (S:NS)(hS:NI S)(mU:S.told<=90000)(d:Int)(hd:¬ (d<1\/549755813888-S.now<d)) :
  GD Tryz.prog gl 68 [.ptr 0 0,.int .i64 d] (Ye S) 3 [0] (.agg (S.tick d).1.enc) (Ye (S.tick d).2):=by
 have dJ:FT Tryz.prog 68 Tryz.f68 (aG Tryz.prog Tryz.f68) [.cell 4 (.ag 4)]:=.of Tryz.func68;have OY:=hS.now;obtain ⟨dn,rfl⟩:∃ k:Nat,d=k:=⟨d.toNat,by omega⟩
 rw[LO,aa hd];refine dJ.gq (ap rfl) (Bi S) aw fun c bf hg=>?_;subst hg
 conv in aG _ _=>cbv
 have R1:=hS.ref;have hw:=hS.wf;obtain ⟨m1,lG⟩:∃ m1:Nat,m1=min dn 4:=⟨_,rfl⟩
 have tz:∀ d1:Decidable ((4:Int)<(dn:Int)),@ite Int ((4:Int)<(dn:Int)) d1 4 dn=m1:=fun d1=>by split<;>omega
 have Bl:∀ S':NS,ah 4 (S'.cR 1 2):=fun S'=>NS.dy aJ aJ;have dZ:=fun (S':NS) ρ=>NS.cZ (S:=S') (f:=1) (i:=2) ρ;have kO:=fun l=>Ws 4 l;unfold Ye;refine Qa ?_;erw [tz]
 refine Yk (fun i:Nat=>i≤m1) (fun i=>⟨[(0,.ptr 0 0),(1,.int .i64 dn),(4,.ptr 3 0),(20,.int .i64 m1),(21,.int .i64 i)],[(3,.cells [.int .i64 0,.str [],.bool false,.str []]),(0,.cells (({ S with ref:=min 4 (S.ref + i) }:NS).cR 1 2)),(1,.cells (bZ S.aI)),(2,.cells (Ql S.keys))],4⟩) (fun i=>m1 - i) dJ.mixed [0] bf
  ⟨0,Nat.zero_le _,To.sub (ρ:=[]) rfl ?_⟩ fun i hi=>?_
 ·have h4:min 4 (S.ref + 0)=S.ref:=by omega
  rw[h4];exact Qi (An @Bl (An @kO (An @dZ (An @Qz @Qt))))
 obtain ⟨v,hv⟩:∃ v:Nat,v=min 4 (S.ref+i):=⟨_,rfl⟩
 rw[<- hv];obtain ⟨g1,g2,g3,g4,g5,g6,g7,g8,g9,g10⟩:=({ S with ref:=v }:NS).pR hw 1 2;refine Qa ?_;refine Qb ?_ ?_<;>intro h1
 ·obtain ⟨v2,ea⟩:∃ v2:Nat,v2=min 4 (S.ref + (i + 1)):=⟨_,rfl⟩
  have wA:∀ d1:Decidable ((v:Int)+1<4),@ite Int ((v:Int)+1<4) d1 (v+1) 4=v2:=fun d1=>by split<;>omega
  have tq:(({ S with ref:=v }:NS).cR 1 2).set 35 (.int .i64 v2)=({ S with ref:=v2 }:NS).cR 1 2:=NS.gg (S:={ S with ref:=v }) hw 5 _;refine Qd (An @g1 @g8) ?_;erw [wA];refine Qd (An @g1 (An @g8 @tq)) ?_;refine ⟨i+1,by omega,To.sub (ρ:=[]) rfl ?_,by omega⟩;rw[<- ea];exact Qi (An @Bl (An @kO (An @dZ (An @Qz @Qt))))
 obtain rfl:i=m1:=by omega
 have DU:S.later dn={ S with now:=S.now+dn,ref:=v }:=by unfold NS.later;rw[hv,lG,Int.toNat_natCast]
 have S6:(({ S with ref:=v }:NS).cR 1 2).set 33 (.int .i64 ((S.now+dn:Nat):Int))=(S.later dn).cR 1 2:=by rw[DU];exact NS.S4 (S:={ S with ref:=v }) hw _ _ _
 have dX:(S.now:Int)+dn=((S.now+dn:Nat):Int):=by omega
 refine Qd (An @g1 (An @g6 (An @dX @S6))) ?_;refine vn 5 5 rfl (by exact Qp) ?_;unfold St.named;clear tz;have jL:(∀ S':NS,ah 5 (S'.cR 1 2))/\(∀ l,ah 5 (bZ l))/\∀ l,ah 5 (Xk l):=⟨fun _=>NS.dy aJ aJ,fun l=>Ws 5 l,fun l=>Wv 5 l⟩
 have lr:∀ (l:List Ev) ρ,ay ρ (Xk l)=Xk l:=fun l ρ=>Bk.cells.inj (Xes (x:=.cells (Xk l)) (by simp[bV,Wv]))
 refine Yk (fun i:Nat=>i≤(S.ended dn).length∧a6 (S.dT dn i).1.aX (S.now + (dn:Int).toNat + 1)=(S.ended dn).drop i) (fun i=>⟨[(0,.ptr 0 0),(1,.int .i64 dn),(4,.ptr 3 0),(5,.sl 5 4 0 (S.dT dn i).2.length (S.dT dn i).2.length)],[(3,.cells [.int .i64 0,.str [],.bool false,.str []]),(0,.cells ((S.dT dn i).1.cR 1 2)),(1,.cells (bZ (S.dT dn i).1.aI)),(2,.cells (Ql (S.dT dn i).1.keys)),(4,.cells (Xk (S.dT dn i).2))],5⟩) (fun i=>(S.ended dn).length - i) dJ.mixed [0] bf
  ⟨0,⟨Nat.zero_le _,Xx7 S dn⟩,To.sub (ρ:=[]) rfl ?_⟩ fun i hi=>?_
 ·rw[show S.dT dn 0=(S.later dn,[]) from rfl]
  (have aQ:=@jL;have bw:=@dZ;have bQ:=@lr;have cy:=@Qz;have dh:=@Qt;refine XG ?_;clear aQ bw bQ cy dh;((try with_reducible and_intros);all_goals try first|refine zm ?_|exact CL))<;>rfl
 obtain ⟨kf,ax⟩:=hi;have hE:=GZ hS hd i;have cp:=fun (b:Nat) (hb:b<(S.dT dn i).1.fl.length) (t:Tm) (ht:(S.dT dn i).1.aX[b]?=some t) h1 h2=>Xv8 hS hd ax hb ht h1 h2;have pS:=Xy6 ax;have iM:=fun q hq=>Yai hS hd i (q:=q) hq;have hN:S.now+(dn:Int).toNat=(S.dT dn i).1.now:=hE.now.symm;rw[hN]at cp pS;generalize S.dT dn i=y at *
 obtain ⟨X,es⟩:=y;dsimp only at hE cp pS iM hN ⊢;clear ax;have yr:=hE.nj.wf;have hXn:=hE.nj.now;have zca:=hE.nj.len;obtain ⟨x1,x2,x3,x4,x5,x6,x7,x8,x9,x10⟩:=X.pR yr 1 2;have uG:=Mb X;have hXk:=Ma X;have yn:X.aI.length=X.fl.length:=by simp[NS.aI]
 have hTl:X.aX.length=X.fl.length:=by simp[NS.aX]
 refine Qd (An @x1 @x3) ?_
 refine Yk (fun y:Nat × Int=>y.1≤X.fl.length∧BI X.aX X.now y.1 y.2)
  (fun y=>⟨[(0,.ptr 0 0),(1,.int .i64 dn),(4,.ptr 3 0),(5,.sl 5 4 0 es.length es.length),(6,.int .i64 y.2),(44,.sl 10 1 0 X.fl.length X.fl.length),(45,.int .i64 X.fl.length),(46,.int .i64 y.1)],[(3,.cells [.int .i64 0,.str [],.bool false,.str []]),(0,.cells (X.cR 1 2)),(1,.cells (bZ X.aI)),(2,.cells (Ql X.keys)),(4,.cells (Xk es))],5⟩) (fun y=>X.fl.length-y.1) dJ.mixed [0] bf
  ⟨(0,-1),⟨by simp,.inl ⟨rfl,by simp⟩⟩,To.sub (ρ:=[]) rfl (by exact Qi (An @jL (An @dZ (An @lr (An @Qz @Qt)))))⟩ fun y hy=>?_
 obtain ⟨k,qH⟩:=y;obtain ⟨hk,vq⟩:=hy;dsimp only at hk vq ⊢;refine Qa ?_;refine Qb ?_ ?_<;>intro h2
 ·have bh:k < X.fl.length:=by omega
  have aL:=Hg X.aI k af;have Bm:=Xor X bh;have vD:=iM _ (getElem_mem bh);have eg:X.aI[k]'af=X.fl[k].2:=by simp[NS.aI]
  have ji:=Xed X.keys k (by have:=wi X;simp[Ql]at this;omega);have lF:X.keys[k]'(by have:=wi X;simp[Ql]at this;omega)=X.fl[k].1:=by simp[NS.keys]
  rw[eg]at aL;rw[lF]at ji;clear eg lF
  have fW:∀ (s:St) (b2:Int),BI X.aX X.now (k + 1) b2→To [0] s ⟨[(0,.ptr 0 0),(1,.int .i64 dn),(4,.ptr 3 0),(5,.sl 5 4 0 es.length es.length),(6,.int .i64 b2),(44,.sl 10 1 0 X.fl.length X.fl.length),(45,.int .i64 X.fl.length),(46,.int .i64 (k + 1:Nat))],[(3,.cells [.int .i64 0,.str [],.bool false,.str []]),(0,.cells (X.cR 1 2)),(1,.cells (bZ X.aI)),(2,.cells (Ql X.keys)),(4,.cells (Xk es))],5⟩ →
    ∃ y:Nat×Int,(y.1<=X.fl.length/\BI X.aX X.now y.1 y.2)/\To [0] s ⟨[(0,.ptr 0 0),(1,.int .i64 dn),(4,.ptr 3 0),(5,.sl 5 4 0 es.length es.length),(6,.int .i64 y.2),(44,.sl 10 1 0 X.fl.length X.fl.length),(45,.int .i64 X.fl.length),(46,.int .i64 y.1)],[(3,.cells [.int .i64 0,.str [],.bool false,.str []]),(0,.cells (X.cR 1 2)),(1,.cells (bZ X.aI)),(2,.cells (Ql X.keys)),(4,.cells (Xk es))],5⟩/\X.fl.length-y.1<X.fl.length-k:=fun s b2 h1 h2=>⟨(k+1,b2),⟨by dsimp only;omega,h1⟩,h2,by dsimp only;omega⟩
  generalize X.fl[k]=t at *
  obtain ⟨tk,⟨⟨t0,t1,t2,t3,t4⟩,t5,t6,t7,t8,t9⟩⟩:=t;unfold Fl.enc Zi at aL;dsimp only at aL Bm vD ji;have Dl:=And.intro uG hXk;have Dm:=And.intro x3 x4;by_cases c0:t9<=(X.now:Int);rotate_left
  ·have f0:decide (t9≤(X.now:Int))=false:=decide_eq_false c0;refine Qd (An @x1 (An @Dm (An @x6 (An @Dl (An @aL @f0))))) ?_;all_goals try (intro h;first|(cases h;done)|(simp_all;done))
   refine Yc ?_;refine Qa ?_;exact fW _ _ (vq.skip Bm (by dsimp only;omega)) (To.sub (ρ:=[]) rfl (by exact Qi (An @jL (An @dZ (An @lr (An @Qz @Qt))))))
  have f0:decide (t9<=(X.now:Int))=true:=decide_eq_true c0;rcases vq with ⟨rfl,br⟩|⟨b,s,rfl,gP,Dn,Hn,hle⟩
  ·have f1:decide ((-1:Int) < 0)=true:=rfl
   (have aQ:=@x1;have bw:=@Dm;have bQ:=@x6;have cy:=@Dl;have dh:=@aL;have ff:=@f0;have gu:=@f1;refine XG ?_;clear aQ bw bQ cy dh ff gu;((try with_reducible and_intros);all_goals try first|refine zm ?_|exact CL))
   all_goals try (intro h;first|(cases h;done)|(simp_all;done))
   refine Yc ?_;refine Qa ?_;exact fW _ _ (BI.first br Bm (by dsimp only;omega)) (To.sub (ρ:=[]) rfl (by exact Qi (An @jL (An @dZ (An @lr (An @Qz @Qt))))))
  ·have dH:b < X.fl.length:=by omega
   have hs:=Dn.symm.trans (Xor X dH);have hdb:=iM _ (getElem_mem dH);have bW:=(Xtg X.aI b af).1;have ya:=Xed X.keys b (by have:=wi X;simp[Ql]at this;omega);rw[show X.aI[b]'af=X.fl[b].2 by simp[NS.aI]]at bW;rw[show X.keys[b]'(by have:=wi X;simp[Ql]at this;omega)=X.fl[b].1 by simp[NS.keys]]at ya;generalize X.fl[b]=u at *
   obtain ⟨uk,⟨⟨u0,u1,u2,u3,u4⟩,u5,u6,u7,u8,u9⟩⟩:=u;dsimp only at hs bW ya hdb;obtain rfl:=Option.some.inj hs;have f1:decide ((b:Int)<0)=false:=decide_eq_false af;by_cases c1:t9<u9
   ·have f2:decide (t9 < u9)=true:=decide_eq_true c1
    (have aQ:=@x1;have bw:=@Dm;have bQ:=@x6;have cy:=@Dl;have dh:=@aL;have ff:=@f0;have gu:=@f1;have nk:=@f2;have qX:=@bW;refine XG ?_;clear aQ bw bQ cy dh ff gu nk qX;((try with_reducible and_intros);all_goals try first|refine zm ?_|exact CL))
    all_goals try (intro h;first|(cases h;done)|(simp_all;done))
    refine Yc ?_;refine Qa ?_;exact fW _ _ (BI.more hle Bm (by dsimp only;omega) (by rw[rm];dsimp only;omega)) (To.sub (ρ:=[]) rfl (by exact Qi (An @jL (An @dZ (An @lr (An @Qz @Qt))))))
   ·have f2:decide (t9 < u9)=false:=decide_eq_false c1;by_cases c2:t9=u9
    ·have f3:(t9 == u9)=true:=beq_iff_eq.2 c2;have f23:decide (t9 < u9)=false∧(t9 == u9)=true:=⟨f2,f3⟩
     have gkb:(bZ X.aI).getD (b*10+9) .any=.int .i64 u9/\(Ql X.keys).getD b .any=.int .i64 uk/\(Ql X.keys).getD k .any=.int .i64 tk:=⟨bW,ya,ji⟩
     have Mf:decide (t9<=(X.now:Int))=true/\decide ((b:Int)<0)=false:=⟨f0,f1⟩
     by_cases c3:tk<uk
     ·have f4:decide (tk < uk)=true:=decide_eq_true c3;refine Qd (An @x1 (An @Dm (An @x6 (An @Dl (An @aL (An @Mf (An @f23 (An @f4 @gkb)))))))) ?_;all_goals try (intro h;first|(cases h;done)|(simp_all;done))
      refine Yc ?_;refine Qa ?_;exact fW _ _ (BI.more hle Bm (by dsimp only;omega) (by rw[rm];dsimp only;omega)) (To.sub (ρ:=[]) rfl (by exact Qi (An @jL (An @dZ (An @lr (An @Qz @Qt))))))
     ·have f4:decide (tk < uk)=false:=decide_eq_false c3;refine Qd (An @x1 (An @Dm (An @x6 (An @Dl (An @aL (An @Mf (An @f23 (An @f4 @gkb)))))))) ?_;all_goals try (intro h;first|(cases h;done)|(simp_all;done))
      refine Yc ?_;refine Qa ?_;exact fW _ _ (BI.ig gP Dn Hn hle Bm (by rw[rm];dsimp only;omega)) (To.sub (ρ:=[]) rfl (by exact Qi (An @jL (An @dZ (An @lr (An @Qz @Qt))))))
    ·have Mf:decide (t9≤(X.now:Int))=true∧decide ((b:Int) < 0)=false:=⟨f0,f1⟩
     have f23:decide (t9<u9)=false/\(t9==u9)=false:=⟨f2,beq_eq_false_iff_ne.2 c2⟩
     refine Qd (An @x1 (An @Dm (An @x6 (An @Dl (An @aL (An @Mf (An @f23 @bW))))))) ?_;all_goals try (intro h;first|(cases h;done)|(simp_all;done))
     refine Yc ?_;refine Qa ?_;exact fW _ _ (BI.ig gP Dn Hn hle Bm (by rw[rm];dsimp only;omega)) (To.sub (ρ:=[]) rfl (by exact Qi (An @jL (An @dZ (An @lr (An @Qz @Qt))))))
 ·obtain rfl:k=X.fl.length:=by omega
  unfold BI at vq;rw[<- hTl,take_length]at vq;rcases vq with ⟨rfl,br⟩|⟨b,t,rfl,gP,Dn,Hn,hle⟩
  ·have Dp:=pS br;have f0:decide ((-1:Int)<0)=true:=rfl;refine Qd @f0 ?_;refine Yc ?_;refine Qa ?_;rw[<- Dp];have hXt:X.told=S.told:=hE.told;have df:es.length<=48:=by
    have h1:=hE.len;have h2:(S.ended dn).length<=S.fl.length:=Nat.le_trans (LN _ _) (by unfold NS.aX;rw[List.length_map];exact Nat.le_refl _);have h3:=hS.len;rw[length_take]at h1;omega
   have pT:=Xep c.gl X yr af es af fun e he=>⟨(hE.bO e he).2,by
    cases es with
    | nil=>cases he
    | cons a l=>rw[(hE.bO e he).1];exact (hE.bO a List.mem_cons_self).1.symm⟩
   unfold Ye at pT;rw[hXt]at pT;have uC:(∀ S':NS,ah 4 (S'.cR 1 2))/\(∀ l,ah 4 (bZ l))/\∀ l,ah 4 (Xk l):=⟨Bl,kO,fun l=>Wv 4 l⟩
   ((first|refine Kk (ins:=[0,1,2,4]) pT ?_ ?_|refine Jc (ins:=[0,1,2,4]) pT ?_ ?_|refine Jb (ins:=[0,1,2,4]) pT ?_ ?_|refine Zc (ins:=[0,1,2,4]) pT ?_ ?_)<;>(have aQ:=@uC;have bw:=@dZ;have bQ:=@lr;have cy:=@Qz;have dh:=@Qt;refine XG ?_;clear aQ bw bQ cy dh;(try first|exact rfl|exact True.intro);((try with_reducible and_intros);all_goals try first|refine zm ?_|exact CL)))
   ·decide
   exact ⟨(),To.gW 1 2 aJ aw rfl rfl rfl (by simp[Rp.enc,Qr,Qe,ah,look,aA,ay])⟩
  ·have dH:b < X.fl.length:=by rw[← hTl];exact gP
   obtain ⟨hlt,mS,jK⟩:=cp b dH t Dn Hn hle;obtain ⟨hg9,Dq⟩:=Xtg X.aI b af;rw[show X.aI[b]'af=X.fl[b].2 by simp[NS.aI]]at Dq;obtain ⟨c1,c2,c3⟩:=Yg6 hE.nj.dS dH;have mW:=hE.nj.gt.wF (hE.nj.kp _ (getElem_mem dH));have aS:=hE.nj.ok;have CN:Hid (∀ s,s<8->-9223372036854775808<=X.tb.aT s/\X.tb.aT s<=9223372036854775807):=Lib.hid fun s hs=>by have:=Tb.jE (Kv.2 hE.nj.gt) yr hs;omega
   have aD:=Tb.au yr;have df:es.length<=48:=by
    have h1:=hE.len;have h2:(S.ended dn).length<=S.fl.length:=Nat.le_trans (LN _ _) (by unfold NS.aX;rw[List.length_map];exact Nat.le_refl _);have h3:=hS.len;rw[length_take]at h1;omega
   have dM:X.now=S.now+dn:=by omega
   rw[dM]at jK;clear cp pS iM hE hle Hn Dn;generalize hq:X.fl[b]=q at *
   obtain ⟨kq,⟨⟨m0,rG,m2,m3,m4⟩,q5,q6,q7,q8,q9⟩⟩:=q;dsimp only at Dq mW mS c1 c2 c3;obtain ⟨S2,xN⟩:∃ S2,X.cut kq=S2:=⟨_,rfl⟩
   have dV:S2.tb=X.tb:=by rw[<- xN];rfl
   have kU:S2.now=X.now:=by rw[<- xN];rfl
   have bA:∀ (l:List AV) j v,(X.tb.enc++l).set (30+j) v=X.tb.enc++l.set j v:=fun l j v=>by rw[List.set_append,aa (by rw[aD];omega),aD,Nat.add_sub_cancel_left]
   have bY:∀ n,n=S2.fl.length->((X.cR 1 2).set 30 (.sl 10 7 0 n n)).set 31 (.sl 1 9 0 n n)=S2.cR 7 9:=fun n e=>by
    rw[e,<- xN];show ((X.tb.enc++X.uF 1 2).set (30+0) _).set (30+1) _=_;rw[bA,bA];rfl
   have Ho:∀ v,((X.cR 1 2).set 30 v).length=38:=fun v=>by rw[List.length_set];exact x1
   have Hp:∀ v,((X.cR 1 2).set 30 v).getD 31 .any=.sl 1 2 0 X.fl.length X.fl.length:=fun v=>by
    rw[<- x4];simp[List.getD]
   obtain ⟨s1,s2,s3,s4,s5,s6,s7,s8,s9,s10⟩:=S2.pR (by rw[dV];exact yr) 7 9;rw[xN]at c1 c2 c3;unfold GY at mS;rw[xN]at mS;dsimp only at mS;unfold Mp.enc at Dq;dsimp only at Dq;have fa:(S2.fl.any fun r=>decide (r.2.map=⟨m0,rG,m2,m3,m4⟩))=S2.aI.any fun f=>decide (f.map=⟨m0,rG,m2,m3,m4⟩):=by
    unfold NS.aI;rw[List.any_map];rfl
   rw[fa]at mS;obtain ⟨hm,Lg⟩:∃ hm:Fl->Bool,(fun f:Fl=>decide (f.map=⟨m0,rG,m2,m3,m4⟩))=hm:=⟨_,rfl⟩
   have CW:∀ q:Fl,hm q=decide (q.map=⟨m0,rG,m2,m3,m4⟩):=fun q=>by rw[<- Lg]
   rw[Lg]at mS;have hF2:S2.aI.length=S2.fl.length:=by simp[NS.aI]
   have hl2:=Mb S2;have f0:decide ((b:Int)<0)=false:=decide_eq_false af;have wG:(∀ S':NS,ah 6 (S'.cR 1 2))/\(∀ l,ah 6 (bZ l))/\∀ l,ah 6 (Xk l):=⟨fun _=>NS.dy aJ aJ,fun l=>Ws 6 l,fun l=>Wv 6 l⟩
   have Di:=Xoq X.aI b af;have ht2:=Xoi X.aI (b+1) af;have S7:bZ (X.aI.take b)++bZ (X.aI.drop (b+1))=bZ S2.aI:=by
    rw[c1];unfold bZ;rw[List.flatMap_append]
   have S8:(Ql X.keys).take b=Ql (X.keys.take b):=by simp[Ql,List.map_take]
   have ht5:(Ql X.keys).drop (b+1)=Ql (X.keys.drop (b+1)):=by simp[Ql,List.map_drop]
   have Ta:Ql (X.keys.take b)++Ql (X.keys.drop (b+1))=Ql S2.keys:=by
    rw[c2];simp[Ql]
   have kE:(bZ (X.aI.take b)).length=b*10:=by rw[Bf,length_take];omega
   have fY:X.keys.length=X.fl.length:=by simp[NS.keys]
   have Hq:(Ql (X.keys.take b)).length=b:=by rw[Xw,length_take];omega
   have eM:((b:Int)+1).toNat=b+1:=by omega
   have mY:=And.intro uG (Ma X);have yt:=And.intro x1 x3;have jM:=And.intro Ho Hp;have s13:=And.intro s1 s3;have yu:=bY S2.fl.length rfl;refine Qd @f0 ?_;refine Yc ?_;refine Qd (An @x1 (An @x3 (An @uG @Dq))) ?_;apply Yje
   ·intro hX;by_cases yi:(b:Int) + 1 < (X.fl.length:Int)
    ·refine Ym (An @mY (An @Di (An @yt @Nat.sub_zero))) ?_;have aL:(bZ (X.aI.drop (b + 1))).take ((X.fl.length - (b + 1)) * 10)=bZ (X.aI.drop (b + 1)):=take_of_length_le (by rw[Bf,List.length_drop];omega);have mH:(Ql (X.keys.drop (b + 1))).take (X.fl.length - (b + 1))=Ql (X.keys.drop (b + 1)):=take_of_length_le (by rw[Xw,List.length_drop];omega);have hbl:b + (X.fl.length - (b + 1))=S2.fl.length:=by omega
     refine Ym (An @mY (An (And.intro ht2 S7) (An @yt (An @Nat.sub_zero (An @eM (An @aL (An (And.intro kE hbl) @jM))))))) ?_;refine Ym (An @mY (An @S8 (An @yt (An @Nat.sub_zero @jM)))) ?_;refine Ym (An @mY (An (And.intro ht5 Ta) (An @yt (An @Nat.sub_zero (An @eM (An @mH (An (And.intro Hq hbl) (An @jM (And.intro yu s13))))))))) ?_
     refine Yk (fun k:Nat=>k≤S2.fl.length) (fun k=>⟨[(0,.ptr 0 0),(1,.int .i64 dn),(4,.ptr 3 0),(5,.sl 5 4 0 es.length es.length),(9,.ptr 5 0),(10,.bool ((S2.aI.take k).any hm)),(156,.sl 10 1 0 S2.fl.length S2.fl.length),(157,.int .i64 S2.fl.length),(158,.int .i64 k)],[(5,.cells [.int .i64 m0,.int .i64 rG,.int .i64 m2,.int .i64 m3,.int .i64 m4]),(3,.cells [.int .i64 0,.str [],.bool false,.str []]),(0,.cells (S2.cR 1 2)),(1,.cells (bZ S2.aI)),(2,.cells (Ql S2.keys)),(4,.cells (Xk es))],6⟩) (fun k=>S2.fl.length - k) dJ.mixed [0] bf
      ⟨0,Nat.zero_le _,To.sub (ρ:=[(1,7),(2,9)]) rfl ?_⟩ hX.o
     exact Qi (An @wG (An @dZ (An @lr (An @Qz (An @Qt @any_nil.{0})))))
    ·have h1f:(bZ X.aI).take (b*10)=bZ S2.aI:=by
      rw[Di,<- S7,List.drop_eq_nil_of_le af];simp[bZ]
     have h1k:(Ql X.keys).take b=Ql S2.keys:=by
      rw[S8,<- Ta,List.drop_eq_nil_of_le af];simp[Ql]
     have h2f:(bZ S2.aI).length=b*10:=by rw[hl2];omega
     have h2k:(Ql S2.keys).length=b:=by rw[Ma];omega
     have Hr:=bY b af;refine Ym (An @mY (An @h1f (An @yt @Nat.sub_zero))) ?_;refine Ym (An @mY (An @h2f (An @yt (An @Nat.sub_zero (An @eM @jM))))) ?_;refine Ym (An @mY (An @h1k (An @yt (An @Nat.sub_zero @jM)))) ?_;refine Ym (An @mY (An @h2k (An @yt (An @Nat.sub_zero (An @eM (An @jM (And.intro Hr s13))))))) ?_
     refine Yk (fun k:Nat=>k≤S2.fl.length) (fun k=>⟨[(0,.ptr 0 0),(1,.int .i64 dn),(4,.ptr 3 0),(5,.sl 5 4 0 es.length es.length),(9,.ptr 5 0),(10,.bool ((S2.aI.take k).any hm)),(156,.sl 10 1 0 S2.fl.length S2.fl.length),(157,.int .i64 S2.fl.length),(158,.int .i64 k)],[(5,.cells [.int .i64 m0,.int .i64 rG,.int .i64 m2,.int .i64 m3,.int .i64 m4]),(3,.cells [.int .i64 0,.str [],.bool false,.str []]),(0,.cells (S2.cR 1 2)),(1,.cells (bZ S2.aI)),(2,.cells (Ql S2.keys)),(4,.cells (Xk es))],6⟩) (fun k=>S2.fl.length - k) dJ.mixed [0] bf
      ⟨0,Nat.zero_le _,To.sub (ρ:=[(1,7),(2,9)]) rfl ?_⟩ hX.o
     exact Qi (An @wG (An @dZ (An @lr (An @Qz (An @Qt @any_nil.{0})))))
   clear bY yu bA Ho Hp jM Dq Di ht2 S7 S8 ht5 Ta kE Hq;intro k hk;refine Qa ?_;refine Qb ?_ ?_<;>intro h5
   ·have bh:k < S2.aI.length:=by omega
    have aL:=Hg S2.aI k bh;have hA:=Md bh hm;have hmu:=CW S2.aI[k];generalize S2.aI[k]=u at *
    obtain ⟨⟨u0,u1,u2,u3,u4⟩,u5,u6,u7,u8,u9⟩:=u;have rJ:=@Aj c false ⟨u0,u1,u2,u3,u4⟩ ⟨m0,rG,m2,m3,m4⟩;dsimp only at hmu;rw[<- hmu]at rJ;generalize hm _=B1 at *
    generalize (S2.aI.take k).any hm=B at *
    unfold Fl.enc Zi at aL;unfold Mp.enc at rJ;dsimp only at aL rJ;cases B with
    | true =>
     rw[Bool.true_or]at hA;refine Qd (An @hl2 @aL) ?_
     ((first|apply w9|apply xc)<;>(have aQ:=@hl2;have bw:=@aL;refine XG ?_;clear aQ bw;first|exact rfl|exact True.intro|((try with_reducible and_intros);all_goals try first|refine zm ?_|exact CL)))
     all_goals try (intro h;first|(cases h;done)|(simp_all;done))
     refine ⟨k+1,by omega,To.sub (ρ:=[]) rfl ?_,by omega⟩;exact Qi (An @hA (An @wG (An @dZ (An @lr (An @Qz @Qt)))))
    | false =>
     rw[Bool.false_or]at hA;refine Qd (An @hl2 @aL) ?_;refine zt (An @hl2 @aL) ?_;refine Qk rJ (An @hl2 @aL) ?_;refine Qa ?_;refine ⟨k+1,by omega,To.sub (ρ:=[]) rfl ?_,by omega⟩;exact Qi (An @hA (An @wG (An @dZ (An @lr (An @Qz @Qt)))))
   obtain rfl:k=S2.fl.length:=by omega
   rw[<- hF2,take_length];refine Qa ?_;refine Qb ?_ ?_<;>intro h6
   ·rw[am h6]at mS;refine Qa ?_;refine ⟨i+1,⟨by omega,jK⟩,To.sub (ρ:=[]) rfl ?_,by omega⟩;rw[mS];exact Qi (An @jL (An @dZ (An @lr (An @Qz @Qt))))
   rw[aa (by rw[h6];simp)]at mS;have hC:=Xqu c.gl X.tb aS CN ⟨m0,rG,m2,m3,m4⟩ (by have:=mW.port;dsimp only at this ⊢;omega);have Mg:=(Yg7 yr ⟨m0,rG,m2,m3,m4⟩).1;have ic:=CS c.gl m4 (by have:=mW.port;dsimp only at this;omega);obtain ⟨v1,v2,-⟩:=S2.pR (by rw[dV];exact yr) 1 2;rw[dV]at v2;generalize X.tb.cls ⟨m0,rG,m2,m3,m4⟩=cl at *
   obtain ⟨tb,gv,ce⟩:=cl;unfold Wu Mp.enc at hC;dsimp only at hC Mg mS;have Tc:=NS.yq (S:=S2) (by rw[dV];exact yr) Mg 1 2;obtain ⟨z1,z2,z3,z4,z5,z6,-⟩:=({ S2 with tb:=tb }:NS).pR Mg 1 2;have hnz:({ S2 with tb:=tb }:NS).now=S2.now/\({ S2 with tb:=tb }:NS).aI=S2.aI/\({ S2 with tb:=tb }:NS).keys=S2.keys:=⟨rfl,rfl,rfl⟩
   have dN:=Tb.au Mg;have qP:tb.enc.take 30=tb.enc:=take_of_length_le (by rw[dN];decide);generalize { S2 with tb:=tb }=S3 at *
   obtain ⟨qV,cE,LX⟩:=hnz;refine Qd (An @v1 @v2) ?_;refine Qk hC (An @v1 (An @v2 (An @dN @qP))) ?_;refine Qd (An @v1 (An @v2 (An @dN (An @qP (An @Tc @z1))))) ?_;refine Qb ?_ ?_<;>intro h7
   ·obtain rfl:=h7;rw[am rfl]at mS;have jo:Xk es++[.int .i64 S3.now,.int .i64 rG,.int .i64 m3,.int .i64 (Xc m4),.bool true]=Xk (es++[S2.ev ⟨m0,rG,m2,m3,m4⟩ true]):=by
     rw[qV];simp[Xk,Ev.enc,NS.ev]
    have Td:=xW es;unfold lL at ic;refine Qa ?_;refine Qk ic (An @z1 @z6) ?_;refine Qd (An @z1 @z6) ?_;refine Ym (An @z1 @z6) ?_;refine Ym (An @Td @jo) ?_;refine Qa ?_;refine ⟨i+1,⟨by omega,jK⟩,To.sub (ρ:=[(4,8)]) rfl ?_,by omega⟩;rw[mS];exact Qi (An @jL (An @dZ (An @lr (An @Qz (An @Qt (An @cE (An @LX @List.length_singleton.{0})))))))
   ·obtain rfl:=h7;rw[aa aw]at mS;refine Qa ?_;refine ⟨i+1,⟨by omega,jK⟩,To.sub (ρ:=[]) rfl ?_,by omega⟩;rw[mS];exact Qi (An @jL (An @dZ (An @lr (An @Qz (An @Qt (An @cE @LX))))))
def Qt6 (S:NS)(a mc pc:List AV)(ha:ah 3 a)(hm:ah 3 mc)(hp:ah 3 pc):HL ([(7,.cells mc),(6,.cells pc),(5,.cells [.int .i64 0,.str [],.bool false,.str []]),(4,.cells a),(3,.cells [.ptr 0 0])]++Ye S) 8 :=
 (((((Kx S).more (x:=.cells [.ptr 0 0]) (by simp[bV,ah,Qe])).more (x:=.cells a) (rq (x:=.cells a) (by decide:3<=5) ha)).more (x:=.cells [.int .i64 0,.str [],.bool false,.str []]) (by simp[bV,ah,Qe])).more (x:=.cells pc) (rq (x:=.cells pc) (by decide:3<=7) hp)).more (x:=.cells mc) (rq (x:=.cells mc) (by decide:3<=8) hm)
def To.rM {p:List Nat}{t t':List (Nat×AV)}{ex ex':List (Nat×Bk)}{S:NS}{N n k:Nat}(H':HL (ex'++Ye S) k)(hk:3<=k)(hkN:k<=N)(jI:∀ q ∈ ex',3<=q.1)(hex:∀ q ∈ ex,3<=q.1/\q.1<N)(hp:∀ b ∈ p,b=0)
  (hl:∀ b,3<=b->b<k->Qc (ex++Xa (dz id [0] N) (Ye S)) n b=Qw (lw (dz id [0] N) 3) (Qc (ex'++Ye S) k b)) (ht:Qr (lw (dz id [0] N) 3) k t t'):To p ⟨t,ex++Xa (dz id [0] N) (Ye S),n⟩ ⟨t',ex'++Ye S,k⟩:=by
 have hs:∀ b,dz id [0] N b=0/\b=0\/dz id [0] N b=N+b/\b≠0:=fun b=>by
  by_cases e:b=0
  ·subst e;exact .inl ⟨Us aw,rfl⟩
  ·exact .inr ⟨Uh (by simpa using e),e⟩
 refine To.mid (Kx S) H' hk jI (fun b b' hb bL e=>?_) (fun q hq b hb e=>?_) (fun b hb b' h1 h2 e=>?_) (fun b hb=>?_) hl ht
 ·rcases hs b with ⟨h1,h2⟩|⟨h1,h2⟩<;>rcases hs b' with ⟨h3,h4⟩|⟨h3,h4⟩<;>omega
 ·have:=hex q hq;rcases hs b with ⟨h1,h2⟩|⟨h1,h2⟩<;>omega
 ·rcases hs b with ⟨h3,h4⟩|⟨h3,h4⟩<;>omega
 ·obtain rfl:=hp b hb;exact ⟨rfl,by omega⟩
structure RW where
 t:List (Nat×AV)
 h:List (Nat×Bk)
 n:Nat
 F:Nat
 I:Nat
 m:Mp
 es:List Ev
 S1:NS
def RW.ρ (i:RW)(b:Nat):Nat:=if b=1 then i.F else if b=2 then i.I else if b<6 then b else b+1
structure RJ (f:List UInt8)(pc ac:List AV)(x:Rp×NS)(i:RW):Prop where
 x:x=i.S1.eZ f i.m i.es
 ni:NI i.S1
 nx:i.S1.bG<=100000
 m:Bg i.m
 k2:look i.t 2=.ptr 3 0
 k3:look i.t 3=.ptr 4 0
 k4:look i.t 4=.ptr 5 0
 k7:look i.t 7=.ptr 7 0
 jC:look i.t 10=.ptr 8 0
 wv:look i.t 11=.str (nE i.S1.told i.es)
 d:i.F≠i.I/\(i.F=1\/9<=i.F)/\(i.I=2\/9<=i.I)
 b0:Qc i.h i.n 0=.cells ((i.S1.log i.es).cR i.F i.I)
 b1:Qc i.h i.n i.F=.cells (bZ i.S1.aI)
 b2:Qc i.h i.n i.I=.cells (Ql i.S1.keys)
 b3:Qc i.h i.n 3=.cells [.ptr 0 0]
 b4:Qc i.h i.n 4=.cells ac
 b5:Qc i.h i.n 5=.cells [.int .i64 0,.str [],.bool false,.str []]
 b7:Qc i.h i.n 7=.cells pc
 b8:Qc i.h i.n 8=.cells i.m.enc
def RJ.to {f:List UInt8}{pc ac:List AV}{x:Rp×NS}{i:RW}(h:RJ f pc ac x i)(ha:ah 3 ac/\∀ ρ,ay ρ ac=ac)(hp:ah 3 pc/\∀ ρ,ay ρ pc=pc){p:List Nat}(h0:∀ b ∈ p,b=0){t t':List (Nat×AV)}(ht:Qr i.ρ 8 t t') :
  To p ⟨t,i.h,i.n⟩ ⟨t',[(7,.cells i.m.enc),(6,.cells pc),(5,.cells [.int .i64 0,.str [],.bool false,.str []]),(4,.cells ac),(3,.cells [.ptr 0 0])]++Ye (i.S1.log i.es),8⟩:=by
 obtain ⟨d1,d2,d3⟩:=h.d;have r0:i.ρ 0=0:=rfl;have r1:i.ρ 1=i.F:=rfl;have r2:i.ρ 2=i.I:=rfl;refine To.pL i.ρ (Qt6 (i.S1.log i.es) ac i.m.enc pc ha.1 (by simp[Mp.enc,ah,Qe]) hp.1) (fun b hb=>by rw[h0 b hb];exact ⟨rfl,by decide⟩) (fun b b' hb bL e=>?_) (fun b hb=>?_) ht
 ·unfold RW.ρ at e
  (repeat' split at e)<;>omega
 ·rcases (by omega:b=0∨b=1∨b=2∨b=3∨b=4∨b=5∨b=6∨b=7) with rfl|rfl|rfl|rfl|rfl|rfl|rfl|rfl
  ·rw[r0,h.b0];show _=Bk.cells (ay i.ρ _);rw[NS.cZ];rfl
  ·rw[r1,h.b1];exact Xew _ _
  ·rw[r2,h.b2];exact Qyx _ _
  ·exact h.b3
  ·refine h.b4.trans ?_;show _=Bk.cells (ay i.ρ ac);rw[ha.2]
  ·exact h.b5
  ·refine h.b7.trans ?_;show _=Bk.cells (ay i.ρ pc);rw[hp.2]
  ·refine h.b8.trans ?_;show _=Bk.cells (ay i.ρ i.m.enc);simp[Mp.enc,ay,aA]
def pU (c:Fl->Bool)(m:Mp)(l:List Fl):Mp:=if l.any c=true then m else cM
def Ycx (S:NS)(hS:NI S)(nA:S.bG<=90000)(mU:S.told<=90000)(ak an ad:Int)(f:List UInt8)(hf:f.length<=140737488351232) :
  GD Tryz.prog gl 66 [.ptr 0 0,.agg [.int .i64 ak,.int .i64 an,.int .i64 ad,.str f]] (Ye S) 3 [0] (.agg (S.out f ad).1.enc) (Ye (S.out f ad).2):=by
 have dJ:FT Tryz.prog 66 Tryz.f66 (aG Tryz.prog Tryz.f66) [.cell 4 (.ag 4)]:=.of Tryz.func66;obtain ⟨x,hx⟩:∃ x,S.out f ad=x:=⟨_,rfl⟩
 rw[hx];refine dJ.gq (ap rfl) (Bi S) aw fun c bf hg=>?_;subst hg
 conv in aG _ _=>cbv
 have hw:=hS.wf;obtain ⟨e1,e2,e3,e4,e5,e6,e7,e8,e9,Bj⟩:=S.pR hw 1 2;have Ba:=hS.len;have hP:=JW c.gl f hf;have br:∀ e,nh Tryz.prog c .dg [.cl 104 [],.int .i64 e] (.agg [.int .i64 e,.str [],.bool false,.str []]):=fun e=>Jp (caps:=[]) (Xqx c.gl e) (by simp[ah,Qe]);obtain ⟨Z1,rD,qV⟩:∃ Z:Int,(3405803777:Int)=Z/\0<=Z/\Z<=4294967296:=⟨_,rfl,by decide,by decide⟩
 obtain ⟨Z2,uB,cE⟩:∃ Z:Int,(167772161:Int)=Z/\0<=Z/\Z<=4294967296:=⟨_,rfl,by decide,by decide⟩
 obtain ⟨Z3,LW,LX⟩:∃ Z:Int,(3405803779:Int)=Z/\0<=Z/\Z<=4294967296:=⟨_,rfl,by decide,by decide⟩
 rw[rD,uB,LW];obtain ⟨p,e,py,yd,vp⟩:=LP f;rw[py]at hP;rw[Sa]at hx;obtain ⟨p1,p2,p3,p4,p5,p6,p7,p8,p9,db,dc,pb⟩:=p;unfold Pk.enc at hP;unfold Ye;dsimp only at hP;refine Qa ?_;refine Xd hP ?_;refine Qa ?_;refine Qb ?_ ?_<;>intro h1
 ·have he:=vp h1;subst he;rw[am h1]at hx;subst hx;have hn:=br (cD f);unfold bJ Rp.enc;refine Qa ?_;refine Xd hn ?_;exact ⟨(),To.gW 1 2 aJ aw rfl rfl rfl (by simp[Qr,Qe,ah,look,aA,ay])⟩
 obtain ⟨he,hp,sx,oL⟩:=yd h1;have ke:=(We (Dh he).e).2.2.2;rw[aa (by rw[he];simp)]at hx;have Df:S.opened f (S.tb.ca p1 (p2-Z2) p3 ad)=(({ S with tb:=(S.tb.ca p1 (p2-Z2) p3 ad).1 }:NS).begin ⟨(S.tb.ca p1 (p2-Z2) p3 ad).2.1,p4,p5,Wc p1,0,0⟩).eZ f (S.tb.ca p1 (p2-Z2) p3 ad).2.1 (if (S.tb.ca p1 (p2-Z2) p3 ad).2.2.1 then [({ S with tb:=(S.tb.ca p1 (p2-Z2) p3 ad).1 }:NS).ev (S.tb.ca p1 (p2-Z2) p3 ad).2.1 false] else []):=by
  unfold NS.opened;rw[hp]
 rw[hp]at hx ke;unfold Jj at oL;unfold Wj at ke;dsimp only at hx sx oL ke;refine Qa ?_;refine Qb ?_ ?_<;>intro h2
 ·rw[am af]at hx;subst hx;have hn:=br 7;unfold bJ Rp.enc;refine Qa ?_;refine Xd hn ?_;exact ⟨(),To.gW 1 2 aJ aw rfl rfl rfl (by simp[Qr,Qe,ah,look,aA,ay])⟩
 rw[aa af]at hx;refine Qa ?_;refine Qb ?_ ?_<;>intro h3
 ·rw[am af]at hx;subst hx;have hn:=br 4;unfold bJ Rp.enc;refine Qa ?_;refine Xd hn ?_;exact ⟨(),To.gW 1 2 aJ aw rfl rfl rfl (by simp[Qr,Qe,ah,look,aA,ay])⟩
 rw[aa af]at hx;refine Qa ?_;refine Qb ?_ ?_<;>intro h4
 ·rw[am af]at hx;subst hx;have hn:=br 12;unfold bJ Rp.enc;refine Qa ?_;refine Xd hn ?_;exact ⟨(),To.gW 1 2 aJ aw rfl rfl rfl (by simp[Qr,Qe,ah,look,aA,ay])⟩
 rw[aa af]at hx;obtain ⟨m,hM,tB⟩:=Xw5 hS.toNJ ⟨p1,p2,p3,p4,p5,p6,p7,p8,p9,db,dc,pb⟩;rw[show (167772161:Int)=Z2 from uB]at hx hM tB;dsimp only at hM tB;have yn:S.aI.length=S.fl.length:=by simp[NS.aI]
 have Hs:∀ q ∈ S.aI,qK ⟨p1,p2,p3,p4,p5,p6,p7,p8,p9,db,dc,pb⟩ (p2-Z2) q=true->q.map=m:=fun q hq h=>by
  obtain ⟨r,hr,rfl⟩:=mem_map.1 hq;exact hM r hr h
 have wH:(∀ S':NS,ah 9 (S'.cR 1 2))/\∀ l,ah 9 (bZ l):=⟨fun _=>NS.dy aJ aJ,fun l=>Ws 9 l⟩
 have dZ:=fun (S:NS) ρ=>NS.cZ (S:=S) (f:=1) (i:=2) ρ;obtain ⟨cc,uI⟩:∃ cc,qK ⟨p1,p2,p3,p4,p5,p6,p7,p8,p9,db,dc,pb⟩ (p2-Z2)=cc:=⟨_,rfl⟩
 have Hm:∀ q:Fl,cc q=true ↔ q.map.s=p2-Z2/\q.map.ae=p1/\q.map.aF=p3/\q.rem=p4/\q.rport=p5:=fun q=>by
  rw[<- uI];simp[qK,and_assoc]
 rw[uI]at Hs tB;have ur:∀ q:Fl,cc q=true->oO cc ⟨p1,p2,p3,p4,p5,p6,p7,p8,p9,db,dc,pb⟩ false S.now q=q.next ⟨p1,p2,p3,p4,p5,p6,p7,p8,p9,db,dc,pb⟩ false S.now:=fun q h=>am h;have hgn:∀ q:Fl,cc q=false->oO cc ⟨p1,p2,p3,p4,p5,p6,p7,p8,p9,db,dc,pb⟩ false S.now q=q:=fun q h=>aa (by rw[h];simp);generalize hgg:oO cc ⟨p1,p2,p3,p4,p5,p6,p7,p8,p9,db,dc,pb⟩ false S.now=g at *
 generalize hF:S.aI=F at *
 have fL:Wq g F 0=F:=Qtl;have EW:pU cc m []=cM:=rfl;refine Qd (An @e1 @e3) ?_
 refine Yk (fun i:Nat=>i≤S.fl.length) (fun i=>⟨[(2,.ptr 3 0),(3,.ptr 4 0),(4,.ptr 5 0),(5,.ptr 6 0),(6,.cl 105 [.ptr 3 0,.ptr 6 0,.ptr 4 0]),(7,.ptr 7 0),(9,.int .i64 (p2 - Z2)),(10,.ptr 8 0),(11,.str []),(12,.bool ((F.take i).any cc)),(66,.sl 10 1 0 S.fl.length S.fl.length),(67,.int .i64 S.fl.length),(68,.int .i64 i)],
   [(8,.cells [.int .i64 (pU cc m (F.take i)).ae,.int .i64 (pU cc m (F.take i)).s,.int .i64 (pU cc m (F.take i)).aF,.int .i64 (pU cc m (F.take i)).a,.int .i64 (pU cc m (F.take i)).port]),(7,.cells [.int .i64 p1,.int .i64 p2,.int .i64 p3,.int .i64 p4,.int .i64 p5,.int .i64 p6,.int .i64 p7,.int .i64 p8,.int .i64 p9,.int .i64 db,.int .i64 dc,.str pb]),(6,.cells [.cl 104 []]),(5,.cells [.int .i64 0,.str [],.bool false,.str []]),(4,.cells [.int .i64 ak,.int .i64 an,.int .i64 ad,.str f]),(3,.cells [.ptr 0 0]),(0,.cells (S.cR 1 2)),(1,.cells (bZ (Wq g F i))),(2,.cells (Ql S.keys))],9⟩) (fun i=>S.fl.length-i) dJ.mixed [0] bf
  ⟨0,Nat.zero_le _,To.sub (ρ:=[]) rfl ?_⟩ fun i hi=>?_
 ·exact Qi (An @fL (An @EW (An @cM.eq_1 (An @any_nil.{0} (An @wH (An @dZ (An @Qz @Qt)))))))
 refine Qa ?_;refine Qb ?_ ?_<;>intro h5
 ·have aK:i < F.length:=by omega
  have uG:(bZ (Wq g F i)).length=S.fl.length*10:=by rw[Bf,yl,yn]
  have aL:((bZ (Wq g F i)).drop (i*10)).take 10=F[i].enc:=by rw[Hg _ i (by rw[yl];exact aK),SQ aK]
  have bA:Yj (bZ (Wq g F i)) (i*10) (g F[i]).enc=bZ (Wq g F (i+1)):=by rw[Xee _ _ (by rw[yl];exact aK),SR aK]
  have cW:=Qtj (g:=g) aK;have hA:=Md aK cc;have ra:=Hs _ (getElem_mem aK);have hq:=Hm F[i];have ep:=ur F[i];have Me:=hgn F[i];generalize F[i]=q at *
  obtain ⟨⟨q0,q1,q2,q3,q4⟩,k0,k1,k2,k3,k4⟩:=q;unfold Fl.enc Zi at aL;dsimp only at aL hq ra;refine Qd (An @uG @aL) ?_;refine Qb ?_ ?_<;>intro h6
  ·have hc:cc ⟨⟨q0,q1,q2,q3,q4⟩,k0,k1,k2,k3,k4⟩=true:=hq.2 af;rw[hc,Bool.or_true]at hA;rw[ep hc]at bA;have Bn:pU cc m (F.take (i+1))=⟨q0,q1,q2,q3,q4⟩:=by
    unfold pU;rw[hA,am rfl];exact (ra hc).symm
   have pA:=Qwg c.gl q0 q1 q2 q3 q4 k0 k1 k2 k3 k4 p1 p2 p3 p4 p5 p6 p7 p8 p9 db dc pb false S.now af;unfold Fl.next Fl.enc at bA;unfold Zi at bA pA;dsimp only at bA pA;generalize Ul q0 k2 k3 k4 p8 false S.now=N at *
   obtain ⟨N1,N2,N3⟩:=N;dsimp only at bA pA;refine Qd (An @e1 (An @e3 @e6)) ?_;refine Qk pA (An @e1 (An @e3 @e6)) ?_;refine Qd (An @uG @bA) ?_;refine ⟨i+1,by omega,To.sub (ρ:=[]) rfl ?_,by omega⟩;exact Qi (An @hA (An @Bn (An @wH (An @dZ (An @Qz @Qt)))))
  ·have hc:cc ⟨⟨q0,q1,q2,q3,q4⟩,k0,k1,k2,k3,k4⟩=false:=by
    cases hcx:cc ⟨⟨q0,q1,q2,q3,q4⟩,k0,k1,k2,k3,k4⟩ with
    | false=>rfl
    | true =>
     have:=hq.1 hcx;omega
   rw[hc,Bool.or_false]at hA;have Bn:pU cc m (F.take (i+1))=pU cc m (F.take i):=by
    unfold pU;rw[hA]
   have um:=cW (Me hc);refine Qa ?_;refine ⟨i+1,by omega,To.sub (ρ:=[]) rfl ?_,by omega⟩;exact Qi (An @hA (An @Bn (An @um (An @wH (An @dZ (An @Qz @Qt))))))
 obtain rfl:i=S.fl.length:=by omega
 have bl:Wq g F S.fl.length=F.map g:=by rw[<- yn,Qzo]
 have mX:F.take S.fl.length=F:=by rw[<- yn,take_length]
 rw[bl,mX];clear bl mX ur hgn fL EW;have ra:(if F.any cc=true then m else cM)=pU cc m F:=rfl;have Ll:∀ n,ah n [.int .i64 p1,.int .i64 p2,.int .i64 p3,.int .i64 p4,.int .i64 p5,.int .i64 p6,.int .i64 p7,.int .i64 p8,.int .i64 p9,.int .i64 db,.int .i64 dc,.str pb]:=fun n=>by simp[ah,Qe]
 have Te:∀ n,ah n [.int .i64 ak,.int .i64 an,.int .i64 ad,.str f]:=fun n=>by simp[ah,Qe]
 refine Qa ?_;refine Sh (RJ f [.int .i64 p1,.int .i64 p2,.int .i64 p3,.int .i64 p4,.int .i64 p5,.int .i64 p6,.int .i64 p7,.int .i64 p8,.int .i64 p9,.int .i64 db,.int .i64 dc,.str pb] [.int .i64 ak,.int .i64 an,.int .i64 ad,.str f] x) (fun i=>⟨i.t,i.h,i.n⟩) (fun i hi=>?_) fun Q' hQ hR=>?_
 ·have jf:=fun {t t':List (Nat × AV)} (ht:Qr i.ρ 8 t t')=>hi.to ⟨Te 3,fun ρ=>by simp[ay,aA]⟩ ⟨Ll 3,fun ρ=>by simp[ay,aA]⟩ (p:=[0]) aw ht;clear Hm hM Hs tB hgg uI hF Df hx;obtain ⟨hx,yy,jK,mW,k2,k3,k4,k7,jC,wv,-,b0,b1,b2,b3,b4,b5,b7,b8⟩:=hi;have r1:i.ρ 3=3∧i.ρ 4=4∧i.ρ 5=5∧i.ρ 6=7∧i.ρ 7=8:=⟨rfl,rfl,rfl,rfl,rfl⟩
  generalize i.ρ=ρ at *
  obtain ⟨t,h,n,F1,I1,⟨m0,m1,m2,m3,m4⟩,es,S1⟩:=i;unfold Mp.enc at b8 jf;dsimp only at *
  have Sv:=mW.a;have hmp:=mW.port;dsimp only at Sv hmp;have te:Ky (aB f) 0 (Z1+m3) m4=0:=by
   rw[hp];unfold Ky;dsimp only;rw[aa af,aa h4,aa af]
  have hT:=Qwb c.gl f 0 (Z1+m3) m4 hf he te;have hGl:=Nat.le_trans (Qtn f 0 (Z1+m3) m4) hf;rw[Sj,hp,rD]at hx;rw[Qo7 he te (.inl af)]at hx hGl;generalize Zs (tY (aB f) 0 (Z1+m3) m4)=G at *
  dsimp only at hx;have Mh:=fun (S:NS) n b hb=>(Kx S).hi n b hb;generalize hL:nE S1.told es=L at *
  have hH8:=fun S'=>Qt6 S' [.int .i64 ak,.int .i64 an,.int .i64 ad,.str f] [.int .i64 m0,.int .i64 m1,.int .i64 m2,.int .i64 m3,.int .i64 m4] [.int .i64 p1,.int .i64 p2,.int .i64 p3,.int .i64 p4,.int .i64 p5,.int .i64 p6,.int .i64 p7,.int .i64 p8,.int .i64 p9,.int .i64 db,.int .i64 dc,.str pb] (Te 3) (by simp[ah,Qe]) (Ll 3);refine Qd (An @k3 (An @b4 (An @jC @b8))) ?_;refine np (p:=[0]) (s':=⟨[(2,.ptr 3 0),(4,.ptr 5 0),(7,.ptr 6 0),(11,.str L),(198,.str f),(201,.int .i64 (Z1+m3)),(203,.int .i64 m4)],_,8⟩) bf (jf ?_) ?_
  ·simp[Qr,Qe,ah,look,aA,ay,k2,k4,k7,wv,r1]
  ((first|apply Yw|apply Yf|apply Xn|apply Xg)<;>(first|exact hT|(refine XG ?_;first|exact rfl|exact True.intro|((try with_reducible and_intros);all_goals try first|refine zm ?_|exact CL))))
  exact Qi @Mh;refine Qb ?_ ?_<;>intro h7
  ·rw[am af]at hx;have aK:=Xqm c.gl (S1.log es) (Xr0 yy es) jK G hGl;generalize (S1.log es).aF G=y at *
   obtain ⟨⟨r1,r2,r3,r4⟩,S2⟩:=y;subst hx;unfold Rp.enc at aK ⊢;dsimp only at aK ⊢;refine Qd @Mh ?_;refine ti (v:=false) (pp:=[0]) (ex:=[(8,_),(8,_),(7,_),(6,_),(5,_),(4,_),(3,_)]) (s3:=⟨[(4,.ptr 5 0),(11,.str L),(24,.ptr 8 0),(219,.agg [.int .i64 r1,.str r2,.bool r3,.str r4])],[(8,.cells [.int .i64 0,.str G,.bool false,.str []]),(7,.cells [.int .i64 m0,.int .i64 m1,.int .i64 m2,.int .i64 m3,.int .i64 m4]),(6,.cells [.int .i64 p1,.int .i64 p2,.int .i64 p3,.int .i64 p4,.int .i64 p5,.int .i64 p6,.int .i64 p7,.int .i64 p8,.int .i64 p9,.int .i64 db,.int .i64 dc,.str pb]),(5,.cells [.int .i64 0,.str [],.bool false,.str []]),(4,.cells [.int .i64 ak,.int .i64 an,.int .i64 ad,.str f]),(3,.cells [.ptr 0 0])]++Ye S2,9⟩) bf aK (Kx _) (Kx S2) (by simp[Qe,ah]) aJ aw aw rfl ?_ ?_ ?_
   ·exact Qi @Yt
   ·unfold Jr;refine To.rM ((hH8 S2).more (by simp[bV,ah,Qe])) aJ aJ aw aw aw (fun b h1 h2=>?_) ?_
    ·rcases (by omega:b=3\/b=4\/b=5\/b=6\/b=7\/b=8) with rfl|rfl|rfl|rfl|rfl|rfl<;>rfl
    ·simp[Qr,Qe,ah,look,aA,ay,lw]
   refine Qd @Mh ?_;exact ⟨(),To.gW 1 2 aJ aw rfl rfl rfl (by simp[Qr,Qe,ah,look,aA,ay])⟩
  ·rw[aa af]at hx;subst hx;unfold Rp.enc;refine Qd @Mh ?_;exact ⟨(),To.gW 1 2 aJ aw rfl rfl rfl (by simp[Qr,Qe,ah,look,aA,ay])⟩
 have uC:(∀ S':NS,ah 6 (S'.cR 1 2))/\∀ l,ah 6 (bZ l):=⟨fun _=>NS.dy aJ aJ,fun l=>Ws 6 l⟩
 rcases tB with ⟨gH,iR,fa⟩|⟨gH,yb,Lc,fa⟩
 rotate_left
 ·rw[am gH,yb]at hx;have Bn:pU cc m F=m:=am fa;rw[fa,Bn,Lc];refine Yc ?_;refine Qa ?_;obtain ⟨r,hr,e⟩:=List.any_eq_true.1 fa;have hrm:=Hs r hr e;rw[<- hF]at hr;obtain ⟨q,hq,rfl⟩:=mem_map.1 hr;have mW:=hS.gt.wF (hrm ▸ hS.kp q hq);refine hQ ⟨_,_,_,1,2,m,[],S.goes _ _ false⟩ ⟨hx.symm,hS.goes _ _ _,by show S.bG<=_;omega,mW,rfl,rfl,rfl,rfl,rfl,rfl,by simp,congrArg Bk.cells (Xdz ..).symm,rfl,congrArg (fun l=>Bk.cells (Ql l)) (R6 ..).symm,rfl,rfl,rfl,rfl,rfl⟩
 rw[aa (by rw[gH];simp)]at hx;have Bn:pU cc m F=cM:=aa (by rw[fa];simp);have uu:=iR false S.now;rw[hgg]at uu;rw[fa,Bn,uu];have hB:=Xhq c.gl ⟨p1,p2,p3,p4,p5,p6,p7,p8,p9,db,dc,pb⟩ sx (by dsimp only;omega);unfold Pk.enc at hB;dsimp only at hB;refine Yc ?_;refine Qa ?_;refine Xd hB ?_;refine Qa ?_;refine Qb ?_ ?_<;>intro h7
 ·rw[am h7]at hx;subst hx;have hn:=br 11;refine Qa ?_;refine Xd hn ?_;refine hR _ ?_;unfold bJ Rp.enc;refine Qa ?_;exact ⟨(),To.gW 1 2 aJ aw rfl (by rw[<- hF];rfl) rfl (by simp[Qr,Qe,ah,look,aA,ay])⟩
 rw[aa (by rw[h7];simp)]at hx;have iC:∀ e:Int,GS Tryz.prog c.gl 105 [.int .i64 e,.ptr 3 0,.ptr 5 0,.ptr 4 0] (Ye S++yo ⟨ak,an,ad,f⟩) 6 (.agg (S.refuse f e).1.enc) (Ye (S.refuse f e).2++yo ⟨ak,an,ad,f⟩) 6:=fun e=>Ybc c.gl S hw hS.ref ⟨ak,an,ad,f⟩ hf he e;refine Qd (An @e1 @e3) ?_;refine Qb ?_ ?_<;>intro h8
 ·rw[am af]at hx;have iC:=iC 6;rw[hx]at iC;clear hx;obtain ⟨⟨r1,r2,r3,r4⟩,S2⟩:=x;unfold Ye yo Ac.enc Rp.enc at iC;dsimp only at iC;rw[hF]at iC;refine Qa ?_
  ((first|refine Kk (ins:=[0,1,2,3,4,6]) iC ?_ ?_|refine Jc (ins:=[0,1,2,3,4,6]) iC ?_ ?_|refine Jb (ins:=[0,1,2,3,4,6]) iC ?_ ?_|refine Zc (ins:=[0,1,2,3,4,6]) iC ?_ ?_)<;>(have aQ:=@uC;have bw:=@dZ;have bQ:=@Qz;have cy:=@Qt;refine XG ?_;clear aQ bw bQ cy;(try first|exact rfl|exact True.intro);((try with_reducible and_intros);all_goals try first|refine zm ?_|exact CL)))
  ·decide
  refine hR _ ?_;unfold Rp.enc;refine Qa ?_;exact ⟨(),To.gW 1 2 aJ aw rfl rfl rfl (by simp[Qr,Qe,ah,look,aA,ay])⟩
 rw[aa af]at hx;have CN:Hid (∀ s,s<8->-9223372036854775808<=S.tb.aT s/\S.tb.aT s<=9223372036854775807):=Lib.hid fun s hs=>by have:=Tb.jE (Kv.2 hS.gt) hw hs;omega
 have hO:=Xz7 c.gl S.tb hS.toNJ.ok CN p1 (p2-Z2) p3 ad
 obtain ⟨nI,Bo⟩:(S.tb.ca p1 (p2 - Z2) p3 ad).1.wf∧((S.tb.ca p1 (p2 - Z2) p3 ad).2.2.2=0→(∀ st,NI (({ S with tb:=(S.tb.ca p1 (p2 - Z2) p3 ad).1 }:NS).begin ⟨(S.tb.ca p1 (p2 - Z2) p3 ad).2.1,p4,p5,st,0,0⟩))∧Bg (S.tb.ca p1 (p2 - Z2) p3 ad).2.1 ∧
   Jd S.now (S.tb.ca p1 (p2-Z2) p3 ad).2.1.s (S.tb.ca p1 (p2-Z2) p3 ad).2.1.a (Xc (S.tb.ca p1 (p2-Z2) p3 ad).2.1.port)=true/\(S.tb.ca p1 (p2-Z2) p3 ad).2.1.s=p2-Z2):=by
  obtain ⟨S0,oJ⟩:∃ S0:Nat,p2-Z2=S0:=⟨(p2-Z2).toNat,by omega⟩
  have bh:=R7 (p:=⟨p1,p2,p3,p4,p5,p6,p7,p8,p9,db,dc,pb⟩) sx (s:=S0) (i:=p3) af af oL.2.2.2.2.1.1 oL.2.2.2.2.1.2;have hop:=opened hS.gt hS.wf bh ad;refine ⟨by rw[oJ];exact hop.wf hS.wf,fun h=>?_⟩;obtain ⟨S9,hS9,-,-,-,-,hb⟩:=hS.opened he (draw:=ad) (by rw[hp];dsimp only;omega) (by rw[hp];exact gH) af (by rw[hp];dsimp only;rw[show p2-167772161=p2-Z2 by omega];exact h);rw[hp]at hb hS9;dsimp only at hb hS9;rw[show (S9:Int)=p2-Z2 by omega]at hb;rw[oJ]at h hb ⊢;have bN:=(hop.has h).1;have hg:=hop.bO hS.gt hS.wf bh;exact ⟨hb,hg.wF bN,R8 (S:={ S with tb:=(S.tb.ca p1 S0 p3 ad).1 }) hS.now hg bN false,(hop.has h).2.2.1⟩
 rw[show (if (S.tb.ca p1 (p2-Z2) p3 ad).2.2.2≠0 then S.refuse f (S.tb.ca p1 (p2-Z2) p3 ad).2.2.2 else S.opened f (S.tb.ca p1 (p2-Z2) p3 ad))=_ from by rw[Df]]at hx;clear Df;generalize S.tb.ca p1 (p2-Z2) p3 ad=oo at *
 obtain ⟨tb,⟨x0,x1,x2,x3,x4⟩,tk,oe⟩:=oo;unfold Ww Xr Mp.enc at hO;dsimp only at hO hx nI Bo;have aD:=Tb.au nI;have qP:tb.enc.take 30=tb.enc:=take_of_length_le (by rw[aD];decide);refine Qd (An @e1 @e2) ?_;refine Qk hO (An @e1 (An @e2 (An @aD @qP))) ?_;refine Qd (An @aD @qP) ?_;refine Qb ?_ ?_<;>intro h9
 ·rw[am h9]at hx;have iC:=iC oe;rw[hx]at iC;clear hx;obtain ⟨⟨r1,r2,r3,r4⟩,S2⟩:=x;unfold Ye yo Ac.enc Rp.enc at iC;dsimp only at iC;rw[hF]at iC;refine Qa ?_
  ((first|refine Kk (ins:=[0,1,2,3,4,6]) iC ?_ ?_|refine Jc (ins:=[0,1,2,3,4,6]) iC ?_ ?_|refine Jb (ins:=[0,1,2,3,4,6]) iC ?_ ?_|refine Zc (ins:=[0,1,2,3,4,6]) iC ?_ ?_)<;>(have aQ:=@uC;have bw:=@dZ;have bQ:=@Qz;have cy:=@Qt;refine XG ?_;clear aQ bw bQ cy;(try first|exact rfl|exact True.intro);((try with_reducible and_intros);all_goals try first|refine zm ?_|exact CL)))
  ·decide
  refine hR _ ?_;unfold Rp.enc;refine Qa ?_;exact ⟨(),To.gW 1 2 aJ aw rfl rfl rfl (by simp[Qr,Qe,ah,look,aA,ay])⟩
 obtain rfl:=h9;rw[aa aw]at hx;obtain ⟨Tf,mW,jk,vg⟩:=Bo rfl;have Tf:=Tf (Wc p1);have Tc:=NS.yq hw nI 1 2;obtain ⟨z1,z2,z3,z4,z5,z6,-⟩:=({ S with tb:=tb }:NS).pR nI 1 2;have ic:=CS c.gl x4 (by have:=mW.port;dsimp only at this;omega);have GK:=Xr7 c.gl p1 [.int .i64 p2,.int .i64 p3,.int .i64 p4,.int .i64 p5,.int .i64 p6,.int .i64 p7,.int .i64 p8,.int .i64 p9,.int .i64 db,.int .i64 dc,.str pb] rfl;have pV:NB ({ S with tb:=tb }:NS):=hS.toNJ.nb.pN nI;unfold lL at ic;have jh:=fun es:List Ev=>Qtz c.gl (({ S with tb:=tb }:NS).log es) ⟨nI,hS.ids,hS.dS,hS.now,hS.lg⟩ (by show S.bG<=_;omega) (by show S.fl.length<=_;omega) ⟨⟨x0,x1,x2,x3,x4⟩,p4,p5,Wc p1,0,0⟩;have gA:∀ es:List Ev,(({ S with tb:=tb }:NS).log es).aI=F/\(({ S with tb:=tb }:NS).log es).keys=S.keys:=fun es=>⟨hF,rfl⟩
 unfold Ye Fl.enc Zi at jh;dsimp only at jh;simp only[gA]at jh;have ss:(∀ S':NS,ah 3 (S'.cR 1 2))/\(∀ l,ah 3 (bZ l))/\(∀ S':NS,ah 5 (S'.cR 3 4))/\(∀ l,ah 5 (bZ l))/\(∀ S':NS,ah 4 (S'.cR 1 2))/\(∀ l,ah 4 (bZ l)):=⟨fun _=>NS.dy aJ aJ,fun l=>Ws 3 l,fun _=>NS.dy aJ aJ,fun l=>Ws 5 l,fun _=>NS.dy aJ aJ,fun l=>Ws 4 l⟩
 have wE:∀ ρ,(∀ S':NS,ay ρ (S'.cR 1 2)=S'.cR (ρ 1) (ρ 2))/\∀ S':NS,ay ρ (S'.cR 3 4)=S'.cR (ρ 3) (ρ 4):=fun ρ=>⟨fun S'=>NS.cZ (S:=S') ρ,fun S'=>NS.cZ (S:=S') ρ⟩
 have bY:∀ es:List Ev,x=(({ S with tb:=tb }:NS).begin ⟨⟨x0,x1,x2,x3,x4⟩,p4,p5,Wc p1,0,0⟩).eZ f ⟨x0,x1,x2,x3,x4⟩ es→∀ t h n F1 I1,look t 2=.ptr 3 0→look t 3=.ptr 4 0→look t 4=.ptr 5 0→look t 7=.ptr 7 0→look t 10=.ptr 8 0→look t 11=.str (nE S.told es)→F1≠I1∧(F1=1∨9≤F1)∧(I1=2∨9≤I1) →
   Qc h n 0=.cells (((({ S with tb:=tb }:NS).log es).begin ⟨⟨x0,x1,x2,x3,x4⟩,p4,p5,Wc p1,0,0⟩).cR F1 I1)->Qc h n F1=.cells (bZ ((({ S with tb:=tb }:NS).log es).begin ⟨⟨x0,x1,x2,x3,x4⟩,p4,p5,Wc p1,0,0⟩).aI)->Qc h n I1=.cells (Ql ((({ S with tb:=tb }:NS).log es).begin ⟨⟨x0,x1,x2,x3,x4⟩,p4,p5,Wc p1,0,0⟩).keys) ->
   Qc h n 3=.cells [.ptr 0 0]->Qc h n 4=.cells [.int .i64 ak,.int .i64 an,.int .i64 ad,.str f]->Qc h n 5=.cells [.int .i64 0,.str [],.bool false,.str []]->Qc h n 7=.cells [.int .i64 p1,.int .i64 p2,.int .i64 p3,.int .i64 p4,.int .i64 p5,.int .i64 p6,.int .i64 p7,.int .i64 p8,.int .i64 p9,.int .i64 db,.int .i64 dc,.str pb]->Qc h n 8=.cells [.int .i64 x0,.int .i64 x1,.int .i64 x2,.int .i64 x3,.int .i64 x4]->Q' .normal ⟨t,h,n⟩ :=
  fun es hx t h n F1 I1 k2 k3 k4 k7 jC wv d b0 b1 b2 b3 b4 b5 b7 b8=>hQ ⟨t,h,n,F1,I1,⟨x0,x1,x2,x3,x4⟩,es,_⟩ ⟨hx,Tf,by show S.bG+1<=_;omega,mW,k2,k3,k4,k7,jC,wv,d,b0,b1,b2,b3,b4,b5,b7,b8⟩
 clear hQ hR Bo hO hP uC wH uu iR hM Hs Hm;refine Qd (An @e1 (An @aD (An @qP @Tc))) ?_;refine Qb ?_ ?_<;>intro fI
 ·obtain rfl:=fI;rw[am rfl]at hx;have pT:=Xep c.gl { S with tb:=tb } nI (by show S.told<=_;omega) [({ S with tb:=tb }:NS).ev ⟨x0,x1,x2,x3,x4⟩ false] aw fun e he=>by
   obtain rfl:=List.mem_singleton.1 he;exact ⟨jk,rfl⟩
  have jh:=jh [({ S with tb:=tb }:NS).ev ⟨x0,x1,x2,x3,x4⟩ false];have bY:=bY _ hx.symm;rw[show Xk [({ S with tb:=tb }:NS).ev ⟨x0,x1,x2,x3,x4⟩ false]=[.int .i64 S.now,.int .i64 (p2-Z2),.int .i64 x3,.int .i64 (Xc x4),.bool false] by rw[<- vg];rfl]at pT;generalize df:[({ S with tb:=tb }:NS).ev ⟨x0,x1,x2,x3,x4⟩ false]=es at *
  have Tg:es.length=1:=by rw[<- df];rfl
  unfold Ye at pT;rw[Tg,(gA es).1,(gA es).2,show ({ S with tb:=tb }:NS).aI=F from hF,show ({ S with tb:=tb }:NS).keys=S.keys from rfl]at pT;refine Qa ?_;refine Qk ic (An @z1 @z6) ?_;refine Qd (An @z1 @z6) ?_;refine Ym (An @z1 @z6) ?_
  ((first|refine Kk (ins:=[0,1,2,11]) pT ?_ ?_|refine Jc (ins:=[0,1,2,11]) pT ?_ ?_|refine Jb (ins:=[0,1,2,11]) pT ?_ ?_|refine Zc (ins:=[0,1,2,11]) pT ?_ ?_)<;>(have aQ:=@ss;have bw:=@wE;have bQ:=@Qz;have cy:=@Qt;refine XG ?_;clear aQ bw bQ cy;(try first|exact rfl|exact True.intro);((try with_reducible and_intros);all_goals try first|refine zm ?_|exact CL)))
  ·decide
  refine Xd GK ?_
  ((first|refine Kk (ins:=[0,1,2]) jh ?_ ?_|refine Jc (ins:=[0,1,2]) jh ?_ ?_|refine Jb (ins:=[0,1,2]) jh ?_ ?_|refine Zc (ins:=[0,1,2]) jh ?_ ?_)<;>(have aQ:=@ss;have bw:=@wE;have bQ:=@Qz;have cy:=@Qt;refine XG ?_;clear aQ bw bQ cy;(try first|exact rfl|exact True.intro);((try with_reducible and_intros);all_goals try first|refine zm ?_|exact CL)))
  ·decide
  exact bY _ _ _ 12 13 rfl rfl rfl rfl rfl rfl aJ rfl rfl rfl rfl rfl rfl rfl rfl
 ·obtain rfl:=fI;rw[aa aw]at hx;have jh:=jh [];have bY:=bY _ hx.symm;rw[show ({ S with tb:=tb }:NS).log []={ S with tb:=tb } from rfl]at jh;refine Qa ?_;refine Xd GK ?_;refine Qa ?_
  ((first|refine Kk (ins:=[0,1,2]) jh ?_ ?_|refine Jc (ins:=[0,1,2]) jh ?_ ?_|refine Jb (ins:=[0,1,2]) jh ?_ ?_|refine Zc (ins:=[0,1,2]) jh ?_ ?_)<;>(have aQ:=@ss;have bw:=@wE;have bQ:=@Qz;have cy:=@Qt;refine XG ?_;clear aQ bw bQ cy;(try first|exact rfl|exact True.intro);((try with_reducible and_intros);all_goals try first|refine zm ?_|exact CL)))
  ·decide
  exact bY _ _ _ 11 12 rfl rfl rfl rfl rfl rfl aJ rfl rfl rfl rfl rfl rfl rfl rfl
def Ybb (e:Int):PS Tryz.prog gl 65 [.int .i64 e] (.agg [.int .i64 e,.str [],.bool false,.str []]):=by
 have dJ:FT Tryz.prog 65 Tryz.f65 (aG Tryz.prog Tryz.f65) [.cell 2 (.ag 4)]:=.of Tryz.func65;refine dJ.ps (ap rfl) (by simp[Qe,ah]) fun c hN hg=>?_
 conv in aG _ _=>cbv
 exact Qp
def NS.Th (h:S.tb.wf)(v f i:Nat):(S.cR f i).set 36 (.int .i64 v)=({ S with bm:=v }:NS).cR f i:=NS.gg h 6 _
def NS.wI (h:S.tb.wf)(f i:Nat):(S.cR f i).take 21=S.tb.ai.enc:=by
 rw[<- Tb.dw h,<- NS.yk h (f:=f) (i:=i),List.take_take];rfl
def NS.wJ (h:S.tb.wf){p:aq}(hp:p.wf)(f i:Nat):Yj (S.cR f i) 0 p.enc=({ S with tb:={ S.tb with ai:=p } }:NS).cR f i:=by
 unfold Yj NS.cR Tb.enc Tb.hd;rw[List.take_zero,List.nil_append,Nat.zero_add,aq.au hp,<- aq.au h.ai,append_assoc,append_assoc,append_assoc,List.drop_left];simp[NS.uF]
def Xzf (p:aq)(a:Int)(b:Bool)(h:(p.drain a b).2≠0):(p.drain a b).1=p:=by
 unfold aq.drain at h ⊢
 (repeat' split)<;>first|rfl|(simp_all;done)
def Ye8 (S:NS)(hK:NK S)(a:Ac)(hf:a.frame.length<=140737488351232):GD Tryz.prog gl 27 [.ptr 0 0,.agg a.enc] (Ye S) 3 [0] (.agg (S.step a).1.enc) (Ye (S.step a).2):=by
 have dJ:FT Tryz.prog 27 Tryz.f27 (aG Tryz.prog Tryz.f27) [.cell 4 (.ag 4)]:=.of Tryz.func27;obtain ⟨ak,an,ad,f⟩:=a;obtain ⟨x,hx⟩:∃ x,S.step ⟨ak,an,ad,f⟩=x:=⟨_,rfl⟩
 rw[hx];unfold Ac.enc;unfold NS.step at hx;dsimp only at hf hx ⊢;refine dJ.gq (ap rfl) (Bi S) aw fun c bf hg=>?_;subst hg
 conv in aG _ _=>cbv
 have hw:=hK.wf;have Te:=hK.act;obtain ⟨e1,e2,e3,e4,e5,e6,e7,e8,e9,Bj⟩:=S.pR hw 1 2;have br:∀ e,nh Tryz.prog c .dg [.cl 65 [],.int .i64 e] (.agg [.int .i64 e,.str [],.bool false,.str []]):=fun e=>Jp (caps:=[]) (Ybb c.gl e) (by simp[ah,Qe]);obtain ⟨Z,hZ,hz⟩:∃ Z:Int,(549755813888:Int)=Z/\0<=Z/\Z<=1099511627776:=⟨_,rfl,by decide,by decide⟩
 rw[hZ];obtain ⟨S1,uD⟩:∃ S1:NS,{ S with bm:=S.bm+1 }=S1:=⟨_,rfl⟩
 have Ht:NI S1:=by rw[<- uD];exact hK.toNI.ln (S.bm+1)
 have nA:S1.bG<=90000:=by rw[<- uD];have:=hK.nx;show S.bG<=_;omega
 have htd:S1.told<=90000:=by rw[<- uD];have:=hK.uA;show S.told<=_;omega
 have fM:=Ht.wf;have Hu:=NS.Th hw (S.bm+1) 1 2;rw[uD]at Hu;replace hx:(if 300<=S.bm then (bJ 6,S) else if ak=1 then S1.out f ad else if ak=2 then S1.aF f else if ak=3 then S1.tick an else if ak=4\/ak=5 then (bJ (S1.tb.ai.drain an (decide (ak=4))).2,if (S1.tb.ai.drain an (decide (ak=4))).2=0 then { S1 with tb:={ S1.tb with ai:=(S1.tb.ai.drain an (decide (ak=4))).1 } } else S1) else (bJ 4,S1))=x:=by rw[<- uD];exact hx
 have dX:(S.bm:Int)+1=((S.bm+1:Nat):Int):=by omega
 obtain ⟨g1,g2,g3,g4,g5,g6,g7,g8,g9,g10⟩:=S1.pR fM 1 2;have eg:bZ S.aI=bZ S1.aI/\Ql S.keys=Ql S1.keys:=by rw[<- uD];exact ⟨rfl,rfl⟩
 have gT:=Ht.now;have Hl:(∀ S':NS,ah 5 (S'.cR 1 2))/\∀ l,ah 5 (bZ l):=⟨fun _=>NS.dy aJ aJ,fun l=>Ws 5 l⟩
 have dZ:=fun (S:NS) ρ=>NS.cZ (S:=S) (f:=1) (i:=2) ρ;have H2:∀ S':NS,HL ([(4,.cells [.int .i64 0,.str [],.bool false,.str []]),(3,.cells [.int .i64 ak,.int .i64 an,.int .i64 ad,.str f])]++Ye S') 5:=fun S'=>((Kx S').more (by simp[bV,ah,Qe])).more (by simp[bV,ah,Qe]);have Bp:dz id [0] 5 0=0:=rfl;unfold Ye;refine Qd (An @e1 @e9) ?_;refine Qb ?_ ?_<;>intro h1
 ·rw[am af]at hx;subst hx;have hn:=br 6;unfold bJ Rp.enc;refine Qa ?_;refine Xd hn ?_;exact ⟨(),To.gW 1 2 aJ aw rfl rfl rfl (by simp[Qr,Qe,ah,look,aA,ay])⟩
 rw[aa af]at hx;refine Qd (An @e1 (An @e9 (An @dX @Hu))) ?_;refine Qb ?_ ?_<;>intro h2
 ·rw[am h2]at hx;have ho:=Ycx c.gl S1 Ht nA htd ak an ad f hf;rw[hx]at ho;obtain ⟨⟨r1,r2,r3,r4⟩,S2⟩:=x;unfold Rp.enc at ho ⊢;dsimp only at ho ⊢;refine Qa ?_;refine np (p:=[0]) (s':=⟨[(4,.ptr 4 0),(26,.ptr 0 0),(27,.agg [.int .i64 ak,.int .i64 an,.int .i64 ad,.str f])],[(4,.cells [.int .i64 0,.str [],.bool false,.str []]),(3,.cells [.int .i64 ak,.int .i64 an,.int .i64 ad,.str f])]++Ye S1,5⟩) bf (To.sub (ρ:=[]) rfl ?_) ?_
  ·unfold Ye;exact Qi (An @eg (An @Hl (An @dZ (An @Qz @Qt))))
  refine ti (v:=false) (pp:=[0]) (ex:=[(4,_),(3,_)]) (s3:=⟨[(4,.ptr 4 0),(28,.agg [.int .i64 r1,.str r2,.bool r3,.str r4])],[(4,.cells [.int .i64 0,.str [],.bool false,.str []]),(3,.cells [.int .i64 ak,.int .i64 an,.int .i64 ad,.str f])]++Ye S2,5⟩) bf ho (Kx S1) (Kx S2) (by simp[Qe,ah]) aJ aw aw rfl ?_ ?_ ?_
  ·exact Qi @Yt
  ·unfold Jr;refine To.rM (H2 S2) aJ aJ aw aw aw (fun b h1 h2=>?_) ?_
   ·rcases (by omega:b=3\/b=4) with rfl|rfl<;>rfl
   ·simp[Qr,Qe,ah,look,aA,ay,lw,Bp]
  refine Qa ?_;exact ⟨(),To.gW 1 2 aJ aw rfl rfl rfl (by simp[Qr,Qe,ah,look,aA,ay])⟩
 rw[aa h2]at hx;refine Qa ?_;refine Qb ?_ ?_<;>intro h3
 ·rw[am h3]at hx;have ho:=Xqm c.gl S1 Ht af f hf;rw[hx]at ho;obtain ⟨⟨r1,r2,r3,r4⟩,S2⟩:=x;unfold Rp.enc at ho ⊢;dsimp only at ho ⊢;refine Qa ?_;refine np (p:=[0]) (s':=⟨[(4,.ptr 4 0),(31,.ptr 0 0),(33,.str f)],[(4,.cells [.int .i64 0,.str [],.bool false,.str []]),(3,.cells [.int .i64 ak,.int .i64 an,.int .i64 ad,.str f])]++Ye S1,5⟩) bf (To.sub (ρ:=[]) rfl ?_) ?_
  ·unfold Ye;exact Qi (An @eg (An @Hl (An @dZ (An @Qz @Qt))))
  refine ti (v:=false) (pp:=[0]) (ex:=[(4,_),(3,_)]) (s3:=⟨[(4,.ptr 4 0),(34,.agg [.int .i64 r1,.str r2,.bool r3,.str r4])],[(4,.cells [.int .i64 0,.str [],.bool false,.str []]),(3,.cells [.int .i64 ak,.int .i64 an,.int .i64 ad,.str f])]++Ye S2,5⟩) bf ho (Kx S1) (Kx S2) (by simp[Qe,ah]) aJ aw aw rfl ?_ ?_ ?_
  ·exact Qi @Yt
  ·unfold Jr;refine To.rM (H2 S2) aJ aJ aw aw aw (fun b h1 h2=>?_) ?_
   ·rcases (by omega:b=3\/b=4) with rfl|rfl<;>rfl
   ·simp[Qr,Qe,ah,look,aA,ay,lw,Bp]
  refine Qa ?_;exact ⟨(),To.gW 1 2 aJ aw rfl rfl rfl (by simp[Qr,Qe,ah,look,aA,ay])⟩
 rw[aa h3]at hx;refine Qa ?_;refine Qb ?_ ?_<;>intro h4
 ·rw[am h4]at hx;by_cases hd:an < 1∨549755813888 - S1.now < an
  ·have e:S1.tick an=(bJ 2,S1):=am hd;rw[e]at hx;subst hx;have hn:=br 2;unfold bJ Rp.enc;by_cases d1:an < 1
   ·have f1:decide (an < 1)=true:=decide_eq_true d1
    (have aQ:=@g1;have bw:=@g6;have bQ:=@f1;refine XG ?_;clear aQ bw bQ;((try with_reducible and_intros);all_goals try first|refine zm ?_|exact CL))
    all_goals try (intro h;first|(cases h;done)|(simp_all;done))
    refine Yc ?_;refine Qa ?_;refine Xd hn ?_;exact ⟨(),To.gW 1 2 aJ aw rfl (congrArg Bk.cells eg.1) (congrArg Bk.cells eg.2) (by simp[Qr,Qe,ah,look,aA,ay])⟩
   ·have f1:decide (an < 1)=false:=decide_eq_false d1;refine Qd (An @g1 (An @g6 @f1)) ?_;all_goals try (intro h;first|(cases h;done)|(simp_all;done))
    refine Qb ?_ ?_<;>intro h5
    ·refine Qa ?_;refine Xd hn ?_;exact ⟨(),To.gW 1 2 aJ aw rfl (congrArg Bk.cells eg.1) (congrArg Bk.cells eg.2) (by simp[Qr,Qe,ah,look,aA,ay])⟩
    ·omega
  have ht:=Xvk c.gl S1 Ht htd an hd;have f1:decide (an<1)=false:=decide_eq_false af;rw[hx]at ht;obtain ⟨⟨r1,r2,r3,r4⟩,S2⟩:=x;unfold Rp.enc at ht ⊢;dsimp only at ht ⊢;refine Qd (An @g1 (An @g6 @f1)) ?_;all_goals try (intro h;first|(cases h;done)|(simp_all;done))
  refine Qb ?_ ?_<;>intro h5
  ·omega
  refine Qa ?_;refine np (p:=[0]) (s':=⟨[(4,.ptr 4 0),(52,.ptr 0 0),(54,.int .i64 an)],[(4,.cells [.int .i64 0,.str [],.bool false,.str []]),(3,.cells [.int .i64 ak,.int .i64 an,.int .i64 ad,.str f])]++Ye S1,5⟩) bf (To.sub (ρ:=[]) rfl ?_) ?_
  ·unfold Ye;exact Qi (An @eg (An @Hl (An @dZ (An @Qz @Qt))))
  refine ti (v:=false) (pp:=[0]) (ex:=[(4,_),(3,_)]) (s3:=⟨[(4,.ptr 4 0),(55,.agg [.int .i64 r1,.str r2,.bool r3,.str r4])],[(4,.cells [.int .i64 0,.str [],.bool false,.str []]),(3,.cells [.int .i64 ak,.int .i64 an,.int .i64 ad,.str f])]++Ye S2,5⟩) bf ht (Kx S1) (Kx S2) (by simp[Qe,ah]) aJ aw aw rfl ?_ ?_ ?_
  ·exact Qi @Yt
  ·unfold Jr;refine To.rM (H2 S2) aJ aJ aw aw aw (fun b h1 h2=>?_) ?_
   ·rcases (by omega:b=3\/b=4) with rfl|rfl<;>rfl
   ·simp[Qr,Qe,ah,look,aA,ay,lw,Bp]
  refine Qa ?_;exact ⟨(),To.gW 1 2 aJ aw rfl rfl rfl (by simp[Qr,Qe,ah,look,aA,ay])⟩
 rw[aa h4]at hx;have kg:List.take 21 (S1.cR 1 2)=S1.tb.ai.enc:=NS.wI fM 1 2;have hDr:∀ b,PS Tryz.prog c.gl 69 [.agg S1.tb.ai.enc,.int .i64 an,.bool b] (Km (S1.tb.ai.drain an b)):=fun b=>Xrm c.gl S1.tb.ai fM.ai an b;have wD:=fun b=>aq.eF S1.tb.ai fM.ai an b;have Dp:=Xzf S1.tb.ai an;have hbq:(ak==4)=decide (ak=4):=by by_cases h:ak=4<;>simp[h]
 refine Qa ?_;refine Qb ?_ ?_<;>intro h5;rotate_left;refine Qa ?_;refine Qb ?_ ?_<;>intro h6;rotate_left
 ·rw[aa af]at hx;subst hx;have hn:=br 4;unfold bJ Rp.enc;refine Qa ?_;refine Xd hn ?_;exact ⟨(),To.gW 1 2 aJ aw rfl (congrArg Bk.cells eg.1) (congrArg Bk.cells eg.2) (by simp[Qr,Qe,ah,look,aA,ay])⟩
 refine Qb ?_ ?_<;>intro h8;rotate_left
 ·exact absurd h5 h8
 all_goals
  rw[am af]at hx;have hD:=hDr (decide (ak=4));have wD:=wD (decide (ak=4));have Dp:=Dp (decide (ak=4));generalize S1.tb.ai.drain an (decide (ak=4))=d at *
  obtain ⟨dp,de⟩:=d;unfold Km at hD;dsimp only at hD wD Dp hx;obtain rfl:(bJ de,{ S1 with tb:={ S1.tb with ai:=dp } })=x:=by
   rw[<- hx];congr 1;split
   ·rfl
   ·rename_i h;rw[Dp h]
  have kC:=aq.au wD;have py:dp.enc.take 21=dp.enc:=take_of_length_le (by rw[kC];decide);have sN:=NS.wJ fM wD 1 2;have hn:=br de;refine Qd (An @g1 (An @kg @hbq)) ?_;refine Qk hD (An @g1 (An @kg (An @kC @py))) ?_;refine Qd (An @g1 (An @kC (An @py @sN))) ?_;refine Xd hn ?_;unfold bJ Rp.enc;exact ⟨(),To.gW 1 2 aJ aw rfl (congrArg Bk.cells eg.1) (congrArg Bk.cells eg.2) (by simp[Qr,Qe,ah,look,aA,ay])⟩
def Xp4 (l:List Ac)(hlen:300<l.length):PS Tryz.prog gl 25 [.bool b,.isl l.length (jg l)] (.aR [.nils,.int .i64 6]):=by
 refine RY.ps (ap rfl) (by simp[Qe,ah]) fun c hN hg=>?_
 conv in aG _ _=>cbv
 refine Qa ?_;refine Qb ?_ ?_<;>intro h1
 ·exact Qp
 ·omega
def Yco (l:List Ac)(hl:Dj l)(i:Nat):GD Tryz.prog gl 27 [.ptr 0 0,.agg (l.getD i rF).enc] (Ye (Kh b l i)) 3 [0] (.agg (uE b l i).enc) (Ye (Kh b l (i+1))) :=
 Ye8 gl (Kh b l i) (SF b l i) (l.getD i rF) (Qtf hl i)
def Qqu (h0:gl 0=.xp (Ql Xv) 0)(b:Bool)(l:List Ac)(hl:Dj l)(hlen:l.length*40<=140737488351232):PS Tryz.prog gl 4 [.bool b,.isl l.length (jg l)] (.bool true):=by
 have dJ:FT Tryz.prog 4 Tryz.f4 (aG Tryz.prog Tryz.f4) [.t 4]:=.of Tryz.func4;refine dJ.ps (ap rfl) (by simp[Qe]) fun c hN hg=>?_;subst hg
 conv in aG _ _=>cbv
 have lP:=fun n=>L7 n l;have Hv:=fun ρ:Nat->Nat=>show ay ρ (jg l)=jg l by rw[Zd];exact (List.map_congr_left fun v hv=>td (Xh.1 (L7 0 l) v hv)).trans (List.map_id _)
 have aW:=Xe8 l;have gX:((jg l).drop 0).take (l.length*4)=jg l:=by rw[List.drop_zero,take_of_length_le (by rw[aW];exact Nat.le_refl _)]
 have Ti:=Xfc c.gl h0 b [⟨99,0,0,[]⟩] (fun a ha=>by obtain rfl:=List.mem_singleton.1 ha;decide) aJ;have hra:=fun n=>Dk n (Kp b [⟨99,0,0,[]⟩] 1);have Hw:=fun ρ=>Hh ρ (Kp b [⟨99,0,0,[]⟩] 1);have zya:(iN (Kp b [⟨99,0,0,[]⟩] 1)).length=4:=by rw[SG,Hj]
 rw[show jg [⟨99,0,0,[]⟩]=[.int .i64 99,.int .i64 0,.int .i64 0,.str []] from rfl,show ([⟨99,0,0,[]⟩]:List Ac).length=1 from rfl]at Ti;generalize iN (Kp b [⟨99,0,0,[]⟩] 1)=A1 at *
 refine Qa ?_;refine Ym (An @aW @lP) ?_;refine np (p:=[]) (by rw[hN];simp) (To.fZ (b:=0) (i:=14) rfl rfl) ?_;rw[gX];by_cases Hx:300<l.length
 ·have iC:=Xp4 c.gl b l Hx;refine Qk iC (An @aW @lP) ?_;refine Jx ?_;refine np (p:=[]) (by rw[hN];simp) (To.fZ (b:=1) (i:=21) rfl rfl) ?_;refine Zv (ip []) Ti (An @aW (An @lP (An @Hv (An @hra @Hw)))) ?_;refine Qb ?_ ?_<;>intro h1
  ·exact Qp
  ·omega
 have hru:=Xfc c.gl h0 b l hl af;have hA:=fun n=>Dk n (Kp b l l.length);have Mi:=fun ρ=>Hh ρ (Kp b l l.length);have hAl:(iN (Kp b l l.length)).length=l.length*4:=by rw[SG,Hj]
 have cf:=Ya8 c.gl b;refine Zv (ip []) hru (An @aW (An @lP (An @Hv (An @hA @Mi)))) ?_;refine Jx ?_;refine np (p:=[]) (by rw[hN];simp) (To.fZ (b:=2) (i:=21) rfl rfl) ?_;refine Zv (ip []) Ti (An @aW (An @lP (An @Hv (An @hra (An @Hw (An @hA @Mi)))))) ?_;refine Qb ?_ ?_<;>intro h1
 ·omega
 unfold Ye at cf;have hn9:∀ n,3<=n->(∀ S':NS,ah n (S'.cR 1 2))/\∀ l,ah n (bZ l):=fun n hn=>⟨fun _=>NS.dy af af,fun l=>Ws n l⟩
 have ss:=hn9 3 aJ;have hn4:=hn9 4 aJ;have dZ:=fun (S:NS) ρ=>NS.cZ (S:=S) (f:=1) (i:=2) ρ;refine Qa ?_;refine Zv (ip []) cf (An @ss (An @dZ (An @Qz @Qt))) ?_;refine Yc ?_;refine Qa ?_
 refine Yk (fun i:Nat=>i≤l.length) (fun i=>⟨[(1,.isl l.length (jg l)),(5,.sl 4 3 0 l.length l.length),(9,.ptr 0 0),(10,.int .i64 i)],[(3,.cells (iN (Kp b l l.length)))]++Ye (Kh b l i),4⟩) (fun i=>l.length - i) dJ.mixed [] (by rw[hN];simp)
  ⟨0,Nat.zero_le _,To.sub (ρ:=[(0,4),(1,5),(2,6),(3,1)]) rfl ?_⟩ fun i hi=>?_
 ·unfold Ye;rw[show Kh b l 0=NS.new b from rfl];exact Qi (An @hn4 (An @dZ (An @Qz (An @Qt (An @hA (An @Mi (An @lP @Hv)))))))
 refine Qa ?_;refine Qb ?_ ?_<;>intro h3
 ·have kf:i < l.length:=by omega
  have jk:=Xdm l kf;have hd:=Yco c.gl b l hl i;have nX:=Ybx (Kp b l l.length) i (by rw[Hj];omega);rw[Xwp b l kf]at nX;have heq:=@Ybs c true (uE b l i);generalize l.getD i rF=a at *
  obtain ⟨a1,a2,a3,a4⟩:=a;generalize uE b l i=r at *
  obtain ⟨r1,r2,r3,r4⟩:=r;dsimp only[Ac.enc,Rp.enc]at jk hd nX heq;refine Qd (An @hAl (An @aW (An @jk @nX))) ?_;refine Gw (v:=false) (ex:=[(3,_)]) hd (Kx _) (Kx _) (by simp[Qe,ah]) aJ aw aw rfl ?_ ?_
  ·exact Qi @Yt
  unfold Jr;refine Qk heq (An @hAl (An @aW (An @jk @nX))) ?_;refine Yc ?_;refine Qa ?_;refine ⟨i+1,by omega,To.rM (ex:=[(3,_)]) (ex':=[(3,.cells (iN (Kp b l l.length)))]) (S:=Kh b l (i+1)) (N:=4) (k:=4) ((Kx _).more (x:=.cells (iN (Kp b l l.length))) (hA 4)) aJ aJ aw aw aw (fun j h1 h2=>?_) ?_,by omega⟩
  ·obtain rfl:j=3:=by omega
   show Bk.cells (iN (Kp b l l.length))=Bk.cells (ay _ _);rw[Mi]
  ·have tM:dz id [0] 4 0=0:=rfl;simp[Qr,Qe,ah,look,aA,ay,lw,lP,Hv,tM]
 ·exact Qp
end Go.Proofs.YtogckmommodmhaaGreatDoor
