import Derived.Test.YtogckmommodmhaaGreatDoorZw5
import Derived.Test.YtogckmommodmhaaGreatDoorZw4
import Derived.Test.YtogckmommodmhaaGreatDoorZw6
import Derived.Test.YtogckmommodmhaaGreatDoorZw11
import Derived.Test.YtogckmommodmhaaGreatDoorZw8
import Derived.Test.YtogckmommodmhaaGreatDoorZw12
import Derived.Test.YtogckmommodmhaaGreatDoorZw9
import Derived.Test.YtogckmommodmhaaGreatDoorZw13
import Derived.Test.YtogckmommodmhaaGreatDoorChecked
import Derived.KernelRfl
import Derived.Test.YtogckmommodmhaaGreatDoorRows
namespace Go.Proofs.YtogckmommodmhaaGreatDoor
open Go.RowKit
set_option linter.all false
set_option linter.unusedSimpArgs false
set_option maxRecDepth 100000
structure Ev where
 t:Int
 s:Int
 a:Int
 b:Int
 f:Bool
def Ev.enc (e:Ev):List AV:=[.int .i64 e.t,.int .i64 e.s,.int .i64 e.a,.int .i64 e.b,.bool e.f]
def Yh (l:List Ev):List AV:=l.flatMap Ev.enc
theorem wq (l:List Ev):(Yh l).length=l.length * 5:=by
 induction l with
 | nil=>rfl
 | cons e l ih=>simp[Yh,Ev.enc]at ih ⊢;omega
theorem Ny (l:List Ev) (k:Nat) (h:k < l.length):((Yh l).drop (k * 5)).take 5=(l[k]).enc:=by
 induction l generalizing k with
 | nil=>simp at h
 | cons e l ih =>
  cases k with
  | zero=>simp[Yh,Ev.enc]
  | succ k =>
   have:=ih k (by simpa using h)
   have e1:Yh (e::l)=e.enc++Yh l:=by simp[Yh]
   rw[e1,List.drop_append,List.drop_eq_nil_of_le (by simp[Ev.enc];omega)]
   have e2:(k + 1) * 5 - e.enc.length=k * 5:=by simp[Ev.enc];omega
   rw[e2];simpa using this
theorem U7 (l:List Ev) (i:Nat) (h:i < l.length) (j:Nat) (hj:j < 5):(Yh l).getD (i * 5 + j) .any=l[i].enc.getD j .any:=by
 have:=Ny l i h
 rw[← this,QJ hj]
theorem Ul (n:Nat) (l:List Ev):ah n (Yh l):=by
 rw[Xi]
 intro x hx
 obtain ⟨e,_,he⟩:=List.mem_flatMap.1 hx
 simp[Ev.enc]at he
 rcases he with rfl|rfl|rfl|rfl|rfl<;>simp[Qf]
theorem Xyk (n:Nat) (l:List Ev):ah n (Yh l)=True:=eq_true (Ul n l)
theorem Xnl (ρ:Nat→Nat) (l:List Ev):ay ρ (Yh l)=Yh l:=by
 rw[Yk]
 refine (List.map_congr_left (g:=id) fun x hx=>?_).trans (List.map_id _)
 obtain ⟨e,_,he⟩:=List.mem_flatMap.1 hx
 simp[Ev.enc]at he
 rcases he with rfl|rfl|rfl|rfl|rfl<;>simp[aD]
attribute [go_sem] Xyk Xnl wq
def uN (o:List Int) (e:Ev):Option (List Int) × Int :=
 if Zk e.t e.s e.a e.b=false then (none,2)
 else
  let i:=(e.a * 6 + e.b).toNat
  if e.f=false∧o.getD i 0≠0 then (none,8)
  else if e.f=true∧o.getD i 0≠e.s + 1 then (none,7)
  else (some (o.set i (if e.f then 0 else e.s + 1)),0)
def Uq:List Int→List Ev→List Int × Int
 | o,[]=>(o,0)
 | o,e::l=>match uN o e with
  | (some o',_)=>Uq o' l
  | (none,k)=>(List.replicate 18 0,k)
def lG (e:Ev):List UInt8:=be e.t 8++be (167772161 + e.s) 4++be (3405803777 + e.a) 4++be (1024 + 8 * e.b) 2++be (1031 + 8 * e.b) 2++be (if e.f then 2 else 1) 1
theorem U8 (e:Ev):(lG e).length=21:=by simp[lG,Qp]
def Kw (l:List Ev):List UInt8:=l.flatMap lG
theorem A7 (l:List Ev):(Kw l).length=21 * l.length:=by
 induction l with
 | nil=>rfl
 | cons e l ih=>simp[Kw,U8]at ih ⊢;omega
theorem Xpj (l:List Ev) (k:Nat) (h:k < l.length):Kw (l.take (k + 1))=Kw (l.take k)++lG l[k]:=by
 rw[List.take_add_one,List.getElem?_eq_getElem h]
 simp only[Kw,List.flatMap_append,Option.toList_some,List.flatMap_cons,List.flatMap_nil,List.append_nil]
def wu (t0:Int) (l:List Ev):Bool:=l.all fun e=>Zk e.t e.s e.a e.b && e.t == t0
def wv (seq:Int):List Ev→AV
 | []=>.aU [.str [],.int .i64 7]
 | e::l=>if 64 < l.length + 1 then .aU [.str [],.int .i64 6] else if wu e.t (e::l)=true then kx seq e.t 300 (Kw (e::l)) else .aU [.str [],.int .i64 2]
theorem Xyt (n:Nat) (seq time set:Int) (bs:List UInt8):Qf n (kx seq time set bs):=by unfold kx;split<;>simp[Qf,ah]
theorem Xuj (n:Nat) (seq:Int) (l:List Ev):Qf n (wv seq l):=by
 unfold wv
 split
 ·simp[Qf,ah]
 ·split
  ·simp[Qf,ah]
  ·split
   ·exact Xyt _ _ _ _ _
   ·simp[Qf,ah]
set_option maxHeartbeats 2000000 in
theorem Xe7 (gl:Nat→AV) (seq:Int) (l:List Ev) (iy:l.length≤4611686018427387904) :
  PS Tryz.prog gl 135 [.int .i64 seq,.isl l.length (Yh l)] (wv seq l):=by
 refine Rw.ps (of_decide_eq_true rfl) (Xuj _ _ _) fun c hN hg=>?_
 conv in aQ _ _=>cbv
 have hl:=wq l
 refine Qe ?_
 (refine Qa (fun h1=>?_) (fun h1=>?_)<;>try exact h1.elim)
 ·have:l=[]:=List.eq_nil_of_length_eq_zero ae
  subst this
  refine Qe ?_
  rfl
 obtain ⟨e0,l0,hL⟩:∃ e0 l0,e0::l0=l:=by
  cases l with
  | nil=>simp at h1
  | cons e l=>exact ⟨e,l,rfl⟩
 have jy:(Yh l).getD 0 .any=.int .i64 e0.t:=by
  have:=U7 (e0::l0) 0 au 0 aI
  simp only[List.getElem_cons_zero,Ev.enc,List.getD_cons_zero,Nat.zero_mul,Nat.zero_add]at this
  rw[← hL];exact this
 refine Qe ?_
 (refine Qa (fun h2=>?_) (fun h2=>?_)<;>try exact h2.elim)
 ·refine Qe ?_
  subst hL
  simp only[wv]
  rw[if_pos (by simp only[List.length_cons]at h2;omega)]
 have hlen:l.length≤64:=by omega
 have gZ:¬ 64 < l0.length + 1:=by rw[← hL]at hlen;simp only[List.length_cons]at hlen;omega
 generalize l=L at *
 refine Qe ?_
 refine Xqk (ps:=[(6,1)]) (by exact Qr) ?_
 (refine XG ?_)
 refine Xd (fun k:Nat=>k≤L.length∧wu e0.t (L.take k)=true) (fun k=>⟨[(0,.int .i64 seq),(1,.isl L.length (Yh L)),(6,.sl 1 0 0 (21 * k) (21 * k)),(17,.isl L.length (Yh L)),(18,.int .i64 L.length),(19,.int .i64 k)],[(0,.cells (Xg (Kw (L.take k))))],1⟩) (fun k=>L.length - k) Rw.mixed hN
  ⟨0,⟨by omega,rfl⟩,[],by refine Qe ?_;rfl⟩ fun k ⟨hk,cg⟩=>?_
 refine Qe ?_
 (refine Qa (fun h3=>?_) (fun h3=>?_)<;>try exact h3.elim)
 ·have bw:k < L.length:=by omega
  have a7:=Ny L k bw
  have eQ:=Xpj L k bw
  have lq:wu e0.t (L.take (k + 1))=(Zk L[k].t L[k].s L[k].a L[k].b && L[k].t == e0.t):=by
   unfold wu at cg ⊢
   rw[List.take_add_one,List.getElem?_eq_getElem bw,List.all_append,cg]
   simp
  have eO:(Zk L[k].t L[k].s L[k].a L[k].b && L[k].t == e0.t)=false→wu e0.t L=false:=fun hb=>by
   unfold wu
   rw[List.all_eq_false]
   exact ⟨L[k],List.getElem_mem _,by rw[hb];simp⟩
  have kC:(Kw (L.take k)).length=21 * k:=by rw[A7];simp;omega
  generalize L[k]=e at *
  obtain ⟨t,sb,a,b,f⟩:=e
  simp only[Ev.enc]at a7
  refine Qh (An @hl @a7) ?_
  ((first|apply Ym|apply Ya|apply Xn|apply Xj)<;>(first|exact (KE _ _ _ _ _ _)|(have aJ:=@a7;have bm:=@jy;refine XG ?_;clear aJ bm;first|exact rfl|exact True.intro|((try (repeat' with_reducible refine And.intro ?_ ?_));(try any_goals (first|refine zm ?_|exact CL|fail))))))
  (refine Qa (fun h4=>?_) (fun h4=>?_)<;>try exact h4.elim)
  ·have hb:=eO (by
    simp only[qu]at h4
    cases hg:Zk t sb a b
    ·rfl
    ·rw[if_pos hg]at h4;simpa using h4)
   refine Qe ?_
   subst hL
   simp only[wv]
   rw[if_neg gZ,if_neg (by rw[hb];simp)]
  ·have bc:Zk t sb a b=true:=by
    simp only[qu]at h4
    by_cases hg:Zk t sb a b=true
    ·exact hg
    ·rw[if_neg hg]at h4;simp at h4
   have ht:t=e0.t:=by
    simp only[qu]at h4
    rw[if_pos bc]at h4;simpa using h4
   have hr:=bc
   simp[Zk]at hr
   generalize hB:Kw (L.take k)=B at *
   have fQ:B.length≤100000000 - 21:=by omega
   refine Qe ?_
   (have zC:=(We c.gl B t 8 aI ae);refine Xm (ip [0]) zC (An @Qp @kC) ?_;clear zC)
   (have zC:=(We c.gl (B++be t 8) (167772161 + sb) 4 aI (by simp[Qp];omega));refine Xm (ip [2]) zC (An @Qp @kC) ?_;clear zC)
   (have zC:=(We c.gl (B++be t 8++be (167772161 + sb) 4) (3405803777 + a) 4 aI (by simp[Qp];omega));refine Xm (ip [3]) zC (An @Qp @kC) ?_;clear zC)
   (have zC:=(We c.gl (B++be t 8++be (167772161 + sb) 4++be (3405803777 + a) 4) (1024 + b * 8) 2 aI (by simp[Qp];omega));refine Xm (ip [4]) zC (An @Qp @kC) ?_;clear zC)
   (have zC:=(We c.gl (B++be t 8++be (167772161 + sb) 4++be (3405803777 + a) 4++be (1024 + b * 8) 2) (1024 + b * 8 + 8 - 1) 2 aI (by simp[Qp];omega));refine Xm (ip [5]) zC (An @Qp @kC) ?_;clear zC)
   have e1:1024 + 8 * b=1024 + b * 8:=by omega
   have e2:1031 + 8 * b=1024 + b * 8 + 8 - 1:=by omega
   cases f with
   | false =>
    (refine Qa (fun h5=>?_) (fun h5=>?_)<;>try exact h5.elim)
    refine Qe ?_
    (have zC:=(We c.gl (B++be t 8++be (167772161 + sb) 4++be (3405803777 + a) 4++be (1024 + b * 8) 2++be (1024 + b * 8 + 8 - 1) 2) 1 1 aI (by simp[Qp];omega));refine Xm (ip [6]) zC (An @Qp @kC) ?_;clear zC)
    refine ⟨k + 1,⟨by omega,by rw[lq,bc,ht];simp⟩,⟨[(0,7)],?_⟩,by omega⟩
    refine Qh @eQ ?_
    simp[lG,e1,e2]
   | true =>
    (refine Qa (fun h5=>?_) (fun h5=>?_)<;>try exact h5.elim)
    refine Qe ?_
    (have zC:=(We c.gl (B++be t 8++be (167772161 + sb) 4++be (3405803777 + a) 4++be (1024 + b * 8) 2++be (1024 + b * 8 + 8 - 1) 2) 2 1 aI (by simp[Qp];omega));refine Xm (ip [6]) zC (An @Qp @kC) ?_;clear zC)
    refine ⟨k + 1,⟨by omega,by rw[lq,bc,ht];simp⟩,⟨[(0,7)],?_⟩,by omega⟩
    refine Qh @eQ ?_
    simp[lG,e1,e2]
 ·have:k=L.length:=by omega
  subst this
  rw[List.take_length]at cg ⊢
  have hb:(Kw L).length≤10000000:=by rw[A7];omega
  have hm:=Rz c.gl seq e0.t 300 (Kw L) hb
  have e2:wv seq L=kx seq e0.t 300 (Kw L):=by
   subst hL
   simp only[wv]
   rw[if_neg gZ,if_pos cg]
  have Nz:=A7 L
  rw[e2]
  clear e2
  rw[Nz]at hm
  have hf:Jo (kx seq e0.t 300 (Kw L)):=by
   unfold kx;split<;>exact .aU (by simp[Jo.str,Jo.int])
  unfold kx at hm hf ⊢
  refine Qh @jy ?_
  split at hm
  ·rename_i hq
   rw[if_pos hq]at hf
   ((first|apply Kz|apply Jx)<;>(first|exact hm|(with_reducible exact hf)|(have aJ:=@jy;have bm:=@Nz;refine XG ?_;clear aJ bm;first|exact rfl|exact True.intro|((try (repeat' with_reducible refine And.intro ?_ ?_));(try any_goals (first|refine zm ?_|exact CL|fail))))))
   rw[if_pos (by assumption)]
  ·rename_i hq
   rw[if_neg hq]at hf
   ((first|apply Kz|apply Jx)<;>(first|exact hm|(with_reducible exact hf)|(have aJ:=@jy;have bm:=@Nz;refine XG ?_;clear aJ bm;first|exact rfl|exact True.intro|((try (repeat' with_reducible refine And.intro ?_ ?_));(try any_goals (first|refine zm ?_|exact CL|fail))))))
   rw[if_neg (by assumption)]
theorem Xwp:FT Tryz.prog 92 Tryz.f92 (aQ Tryz.prog Tryz.f92) [.t 2]:=.of Tryz.func92
theorem Ybs:FT Tryz.prog 130 Tryz.f130 (aQ Tryz.prog Tryz.f130) [.t 4]:=.of Tryz.func130
theorem Xzv:FT Tryz.prog 132 Tryz.f132 (aQ Tryz.prog Tryz.f132) [.cell 8 (.ag 10)]:=.of Tryz.func132
theorem Xqn:FT Tryz.prog 87 Tryz.f87 (aQ Tryz.prog Tryz.f87) [.t 2]:=.of Tryz.func87
def Kg (af st:Int):Int:=if af=1 then 8 else if af=17 then 20 else if st=2 then 60 else if st=1 then 4 else 6
theorem U9 (gl:Nat→AV) (af st:Int):PS Tryz.prog gl 130 [.int .i64 af,.int .i64 st] (.int .i64 (Kg af st)):=by
 refine Ybs.ps (of_decide_eq_true rfl) (by simp[Qf]) fun c hN hg=>?_
 conv in aQ _ _=>cbv
 (refine XG ?_;((try (repeat' with_reducible refine And.intro ?_ ?_));(try any_goals (first|refine zm ?_|exact CL|fail))))
 (refine Qa (fun h1=>?_) (fun h1=>?_)<;>try exact h1.elim)
 ·(refine XG ?_;((try (repeat' with_reducible refine And.intro ?_ ?_));(try any_goals (first|refine zm ?_|exact CL|fail))))
  simp_all [Kg]
 (refine XG ?_;((try (repeat' with_reducible refine And.intro ?_ ?_));(try any_goals (first|refine zm ?_|exact CL|fail))))
 (refine Qa (fun h2=>?_) (fun h2=>?_)<;>try exact h2.elim)
 ·(refine XG ?_;((try (repeat' with_reducible refine And.intro ?_ ?_));(try any_goals (first|refine zm ?_|exact CL|fail))))
  simp_all [Kg]
 (refine XG ?_;((try (repeat' with_reducible refine And.intro ?_ ?_));(try any_goals (first|refine zm ?_|exact CL|fail))))
 (refine Qa (fun h3=>?_) (fun h3=>?_)<;>try exact h3.elim)
 ·(refine XG ?_;((try (repeat' with_reducible refine And.intro ?_ ?_));(try any_goals (first|refine zm ?_|exact CL|fail))))
  simp_all [Kg]
 (refine XG ?_;((try (repeat' with_reducible refine And.intro ?_ ?_));(try any_goals (first|refine zm ?_|exact CL|fail))))
 (refine Qa (fun h4=>?_) (fun h4=>?_)<;>try exact h4.elim)
 ·(refine XG ?_;((try (repeat' with_reducible refine And.intro ?_ ?_));(try any_goals (first|refine zm ?_|exact CL|fail))))
  simp_all [Kg]
 ·(refine XG ?_;((try (repeat' with_reducible refine And.intro ?_ ?_));(try any_goals (first|refine zm ?_|exact CL|fail))))
  simp_all [Kg]
def oT (af st sd du fl:Int) (cn:Bool) (now:Int):Int × Int × Int :=
 let b (n:Int):=bits .and .i64 fl n
 let side:Int:=if cn then 1 else 0
 let x:Int × Int × Bool:=if af=6 then
   (if b 4≠0 then (4,sd,st != 4) else if st=1∧cn=true∧b 18=18 then (2,sd,true) else if st=2∧b 1≠0 then (3,side,true)
    else if st=3∧b 1≠0∧sd≠side then (4,sd,true) else if st=1 then (st,sd,!cn && b 2 != 0) else (st,sd,st == 2))
  else (st,sd,!(cn && af == 17))
 (x.1,x.2.1,if x.2.2 then IntKind.i64.wrap (now + Kg af x.1) else du)
def Wo (p s i a pt r rp st sd du:Int):List AV:=[.int .i64 p,.int .i64 s,.int .i64 i,.int .i64 a,.int .i64 pt,.int .i64 r,.int .i64 rp,.int .i64 st,.int .i64 sd,.int .i64 du]
set_option maxHeartbeats 4000000 in
theorem Va (gl:Nat→AV) (p s i a pt r rp st sd du:Int) (f1 f2 f3 f4 f5 f6 f7 fl f9 f10 f11:Int) (bd:List UInt8) (cn:Bool) (now:Int) :
  PS Tryz.prog gl 132 [.agg (Wo p s i a pt r rp st sd du),.agg [.int .i64 f1,.int .i64 f2,.int .i64 f3,.int .i64 f4,.int .i64 f5,.int .i64 f6,.int .i64 f7,.int .i64 fl,.int .i64 f9,.int .i64 f10,.int .i64 f11,.str bd],.bool cn,.int .i64 now]
   (.agg (Wo p s i a pt r rp (oT p st sd du fl cn now).1 (oT p st sd du fl cn now).2.1 (oT p st sd du fl cn now).2.2)):=by
 refine Xzv.ps (of_decide_eq_true rfl) (by simp[Qf,ah,Wo]) fun c hN hg=>?_
 conv in aQ _ _=>cbv
 (have aJ:=@Wo.eq_1;refine XG ?_;clear aJ;((try (repeat' with_reducible refine And.intro ?_ ?_));(try any_goals (first|refine zm ?_|exact CL|fail))))
 (repeat' (first|((refine Qa (fun hh=>?_) (fun hh=>?_)<;>try exact hh.elim)<;>(have aJ:=@Wo.eq_1;refine XG ?_;clear aJ;((try (repeat' with_reducible refine And.intro ?_ ?_));(try any_goals (first|refine zm ?_|exact CL|fail)))))|((first|apply Ym|apply Ya|apply Xn|apply Xj)<;>(first|exact (U9 _ _ _)|(have aJ:=@Wo.eq_1;refine XG ?_;clear aJ;first|exact rfl|exact True.intro|((try (repeat' with_reducible refine And.intro ?_ ?_));(try any_goals (first|refine zm ?_|exact CL|fail))))))))
 all_goals simp_all [oT]
 all_goals (split<;>simp_all)
structure Fl where
 map:Mp
 rem:Int
 rport:Int
 st:Int
 side:Int
 due:Int
 deriving DecidableEq
def Fl.enc (f:Fl):List AV:=Wo f.map.af f.map.s f.map.aR f.map.a f.map.port f.rem f.rport f.st f.side f.due
structure Rp where
 code:Int
 frame:List UInt8
 inner:Bool
 log:List UInt8
def Rp.enc (r:Rp):List AV:=[.int .i64 r.code,.str r.frame,.bool r.inner,.str r.log]
def bT (e:Int):Rp:=⟨e,[],false,[]⟩
structure Ac where
 kind:Int
 n:Int
 draw:Int
 frame:List UInt8
def Ac.enc (a:Ac):List AV:=[.int .i64 a.kind,.int .i64 a.n,.int .i64 a.draw,.str a.frame]
structure NS where
 tb:Tb
 fl:List (Int × Fl)
 b7:Int
 now:Nat
 told:Nat
 ref:Nat
 aE:Nat
 loose:Bool
def NS.keys (S:NS):List Int:=S.fl.map (·.1)
def NS.a8 (S:NS):List Tm:=S.fl.map fun q=>⟨q.1,q.2.due.toNat⟩
def NS.findF (S:NS) (m:Mp) (r rp:Int):Int:=match S.fl.find? (fun q=>decide (q.2.map=m) && q.2.rem == r && q.2.rport == rp) with
 | some q=>q.1
 | none=>0
def Fl.next (f:Fl) (p:Pk) (cn:Bool) (now:Int):Fl :=
 let x:=oT f.map.af f.st f.side f.due p.flags cn now
 { f with st:=x.1,side:=x.2.1,due:=x.2.2 }
def NS.goes (S:NS) (k:Int) (p:Pk) (cn:Bool):NS:={ S with fl:=S.fl.map fun q=>if q.1=k then (q.1,q.2.next p cn S.now) else q }
def NS.begin (S:NS) (f:Fl):NS:={ S with b7:=S.b7 + 1,fl:=S.fl++[(S.b7 + 1,{ f with due:=S.now + Kg f.map.af f.st })] }
def NS.ev (S:NS) (m:Mp) (free:Bool):Ev:=⟨S.now,m.s,m.a,Xb m.port,free⟩
def jJ (told:Nat) (l:List Ev):List UInt8:=if l=[] then [] else (if told=0 then Yi 0 0 2 (Wh 6) else [])++Yi told (l.headD ⟨0,0,0,0,false⟩).t 300 (Kw l)
def NS.log (S:NS) (l:List Ev):NS:={ S with told:=S.told + l.length }
def Yz (f:List UInt8) (side addr port:Int):List UInt8 :=
 if bZ f≠0 then [] else if Ug (az f) side addr port≠0 then [] else Yc f (az f).af (az f).av (oE side) (oF (az f).af side) addr port
def NS.refuse (S:NS) (f:List UInt8) (e:Int):Rp × NS :=
 if S.ref=0∨bZ f≠0 then (bT e,S) else (⟨e,mJ f (w4 f 12) S.ref,true,[]⟩,{ S with ref:=S.ref - 1 })
def NS.aR (S:NS) (f:List UInt8):Rp × NS :=
 if bZ f≠0 then (bT (bZ f),S) else
 let p:=az f
 let a:=p.dst - 3405803777
 if a < 0∨3≤a then (bT 7,S) else
 if p.af=1∧p.flags≠0 then (bT 4,S) else
 if p.av=1 then (bT 12,S) else
 match S.tb.maps.find? (Wa p.af a p.aj) with
 | none=>(bT 7,S)
 | some m =>
  let go:Rp:=⟨0,Yz f 1 (167772161 + m.s) m.aR,true,[]⟩
  if S.findF m p.aB p.ai≠0 then (go,S.goes (S.findF m p.aB p.ai) p true) else
  if S.loose=false∧(S.fl.any fun q=>decide (q.2.map=m) && q.2.rem == p.aB)=false then (bT 11,S) else
  if p.af≠17∨48≤S.fl.length then (bT 11,S) else
  (go,S.begin ⟨m,p.aB,p.ai,2,0,0⟩)
def NS.dP (S:NS) (f:List UInt8) (m:Mp) (es:List Ev):Rp × NS :=
 let g:=Yz f 0 (3405803777 + m.a) m.port
 let S1:=S.log es
 let to:=(az f).dst - 3405803777
 if 0≤to∧to < 3 then
  let x:=S1.aR g
  ({ x.1 with log:=jJ S.told es },x.2)
 else (⟨0,g,false,jJ S.told es⟩,S1)
def pU (af:Int):Int:=if af=6 then 1 else 2
def A8 (af flags:Int):Bool :=
 if af=17 then true else if af=1 then flags == 8 else decide (af=6) && bits .and .i64 flags 23 == 2
noncomputable def NS.out (S:NS) (f:List UInt8) (draw:Int):Rp × NS :=
 if bZ f≠0 then (bT (bZ f),S) else
 let p:=az f
 let s:=p.aB - 167772161
 if s < 0∨8≤s then (bT 7,S) else
 if p.af=1∧p.flags≠8 then (bT 4,S) else
 if p.av=1 then (bT 12,S) else
 let k:=match S.tb.maps.find? (Zd p.af s p.ai) with
  | some m=>S.findF m p.dst p.aj
  | none=>0
 if k≠0 then
  match S.tb.maps.find? (Zd p.af s p.ai) with
  | some m=>(S.goes k p false).dP f m []
  | none=>(bT 0,S)
 else
  if A8 p.af p.flags=false then (bT 11,S) else
  if 48≤S.fl.length then S.refuse f 6 else
  let o:=S.tb.cE p.af s p.ai draw
  if o.2.2.2≠0 then S.refuse f o.2.2.2 else
  let S1:NS:={ S with tb:=o.1 }
  (S1.begin ⟨o.2.1,p.dst,p.aj,pU p.af,0,0⟩).dP f o.2.1 (if o.2.2.1 then [S1.ev o.2.1 false] else [])
noncomputable def cu (x:NS × List Ev) (k:Int):NS × List Ev :=
 match x.1.fl.find? (fun q=>q.1 == k) with
 | none=>x
 | some q =>
  let S1:NS:={ x.1 with fl:=x.1.fl.filter fun r=>!(r.1 == k) }
  if (S1.fl.any fun r=>decide (r.2.map=q.2.map)) then (S1,x.2) else
  let c:=S1.tb.cls q.2.map
  ({ S1 with tb:=c.1 },if c.2.1 then x.2++[S1.ev q.2.map true] else x.2)
noncomputable def NS.tick (S:NS) (d:Int):Rp × NS :=
 if d < 1∨549755813888 - S.now < d then (bT 2,S) else
 let S1:NS:={ S with now:=S.now + d.toNat,ref:=min 4 (S.ref + min d.toNat 4) }
 let x:=(bh S.a8 (S.now + d.toNat + 1)).foldl cu (S1,[])
 (⟨0,[],false,jJ S.told x.2⟩,x.1.log x.2)
noncomputable def NS.step (S:NS) (a:Ac):Rp × NS :=
 if 300≤S.aE then (bT 6,S) else
 let S:NS:={ S with aE:=S.aE + 1 }
 if a.kind=1 then S.out a.frame a.draw else
 if a.kind=2 then S.aR a.frame else
 if a.kind=3 then S.tick a.n else
 if a.kind=4∨a.kind=5 then
  let d:=S.tb.aq.drain a.n (decide (a.kind=4))
  (bT d.2,if d.2=0 then { S with tb:={ S.tb with aq:=d.1 } } else S)
 else (bT 4,S)
def NS.new (loose:Bool):NS:=⟨⟨⟨List.replicate 18 0,List.replicate 3 false⟩,List.replicate 8 0,[]⟩,[],0,0,0,4,0,loose⟩
theorem Hr {h:List (Nat × Bk)} {n b:Nat} (hb:∀ q ∈ h,q.1≠b):Qc h n b=if b < n then .dead else .free:=by
 have:=Qw (h:=[]) (n:=n) (j:=b) hb
 rw[List.append_nil]at this
 rw[this];rfl
section
variable {h h0 h1 ex ex':List (Nat × Bk)} {m n n' b:Nat}
theorem HL.hi (H:HL h m) (n b:Nat) (hb:m≤b):Qc h n b=if b < n then .dead else .free:=Hr fun q hq e=>by have:=(H.mem q hq).1;omega
theorem HL.lo (H:HL h m) (hb:b < m) (n:Nat):Qc h n b=Qc h m b:=(H.live hb n).1
theorem HL.nm (H:HL h m) (hb:b < m):bP m (Qc h m b):=by
 obtain ⟨_,q,hq,_,e⟩:=H.live hb m
 rw[e];exact (H.mem q hq).2
theorem HL.lv (H:HL h m) (hb:b < m):(Qc h m b).live:=Xc (H.nm hb)
theorem HL.lives (H:HL h m):∀ q ∈ h,q.2.live:=fun q hq=>Xc (H.mem q hq).2
theorem HL.more (H:HL h m) {x:Bk} (hx:bP (m + 1) x):HL ((m,x)::h) (m + 1) where
 mem q hq:=by
  rcases List.mem_cons.1 hq with rfl|hq
  ·exact ⟨Nat.lt_succ_self _,hx⟩
  ·exact ⟨by have:=(H.mem q hq).1;omega,Un (Nat.le_succ m) (H.mem q hq).2⟩
 dW b hb:=by
  by_cases e:b=m
  ·exact ⟨_,List.mem_cons_self,e.symm⟩
  ·obtain ⟨q,hq,e2⟩:=H.dW b ae
   exact ⟨q,List.mem_cons_of_mem _ hq,e2⟩
 self q hq:=by
  rcases List.mem_cons.1 hq with rfl|hq
  ·rw[Qd,if_pos rfl]
  ·have:=(H.mem q hq).1
   rw[Qd,if_neg ae,H.lo this,H.self q hq]
theorem To.lX {p:List Nat} {t t':List (Nat × AV)} (ρ:Nat→Nat) (H:HL h m) (hp:∀ b ∈ p,ρ b=b∧b < m) (bN:∀ b b',b < m→b' < m→ρ b=ρ b'→b=b') (hl:∀ b,b < m→Qc h0 n (ρ b)=Qx ρ (Qc h m b)) (ht:Qu ρ m t t'):To p ⟨t,h0,n⟩ ⟨t',h,m⟩:=by
 refine To.lk ρ hp (fun b cR=>?_) (fun b hb kf=>(kf (H.lv hb)).elim) (fun b hb=>(H.hi m b hb).trans (if_neg (by have hb:m≤b:=hb;show ¬ b < m;omega))) (fun b b' hb bH _ _ e=>bN b b' hb bH e) (fun b hb cR=>⟨H.nm hb,hl b hb⟩) ht
 by_cases hb:b < m
 ·exact hb
 ·have cR:(Qc h m b).live:=cR
  rw[H.hi m b ae,if_neg hb]at cR
  exact cR.elim
theorem To.drop {p:List Nat} {t t':List (Nat × AV)} (H:HL h m) (hex:∀ q ∈ ex,m≤q.1) (hp:∀ b ∈ p,b < m) (ht:Qu id m t t'):To p ⟨t,ex++h,n⟩ ⟨t',h,m⟩ :=
 To.lX id H (fun b hb=>⟨rfl,hp b hb⟩) (fun b b' _ _ e=>e) (fun b hb=>by
  rw[Kb]
  show Qc (ex++h) n b=_
  rw[Qw fun q hq e=>by have:=hex q hq;omega,H.lo hb]) ht
theorem To.home {p:List Nat} {t t':List (Nat × AV)} {σ:Nat→Nat} (H:HL h m) (bN:∀ b b',b < m→b' < m→σ b=σ b'→b=b') (hex:∀ q ∈ ex,jr σ m q.1) (hp:∀ b ∈ p,σ b=b∧b < m) (ht:Qu σ m t t'):To p ⟨t,ex++Qs σ h,n⟩ ⟨t',h,m⟩ :=
 To.lX σ H hp bN (fun b hb=>by
  rw[Qw fun q hq e=>hex q hq b hb e.symm]
  exact Zc bN hb (fun q hq=>(H.mem q hq).1) (H.dW b hb)) ht
def lw (σ:Nat→Nat) (m b:Nat):Nat:=if b < m then σ b else b
theorem A9 {σ:Nat→Nat} (h:b < m):lw σ m b=σ b:=if_pos h
theorem Ec {σ:Nat→Nat} (h:m≤b):lw σ m b=b:=if_neg (by omega)
theorem NA {f g:Nat→Nat} {m:Nat} (h:∀ b,b < m→f b=g b) {x:Bk} (hx:bP m x):Qx f x=Qx g x:=Jm h hx
theorem To.mid {p:List Nat} {t t':List (Nat × AV)} {σ:Nat→Nat} {k:Nat} (H:HL h m) (H':HL (ex'++h) k) (Ta:m≤k) (km:∀ q ∈ ex',m≤q.1) (bN:∀ b b',b < m→b' < m→σ b=σ b'→b=b') (hex:∀ q ∈ ex,jr σ m q.1) (ew:∀ b,b < m→∀ b',m≤b'→b' < k→σ b≠b')
  (hp:∀ b ∈ p,lw σ m b=b∧b < k) (hl:∀ b,m≤b→b < k→Qc (ex++Qs σ h) n b=Qx (lw σ m) (Qc (ex'++h) k b)) (ht:Qu (lw σ m) k t t'):To p ⟨t,ex++Qs σ h,n⟩ ⟨t',ex'++h,k⟩:=by
 refine To.lX (lw σ m) H' hp (fun b b' hb bH e=>?_) (fun b hb=>?_) ht
 ·by_cases h1:b < m<;>by_cases h2:b' < m
  ·rw[A9 h1,A9 h2]at e;exact bN _ _ h1 h2 e
  ·rw[A9 h1,Ec ae]at e;exact (ew b h1 b' ae bH e).elim
  ·rw[Ec ae,A9 h2]at e;exact (ew b' h2 b ae hb e.symm).elim
  ·rw[Ec ae,Ec ae]at e;exact e
 ·by_cases h1:b < m
  ·rw[A9 h1,Qw fun q hq e=>hex q hq b h1 e.symm,Zc bN h1 (fun q hq=>(H.mem q hq).1) (H.dW b h1),Qw fun q hq e=>by have:=km q hq;omega,H.lo h1 k]
   exact Jm (g:=lw σ m) (fun b hb=>(A9 hb).symm) (H.nm h1)
  ·rw[Ec ae];exact hl b ae hb
theorem Ed {f g:Nat→Nat} (H:HL h m) (e:∀ b,b < m→f b=g b):Qs f h=Qs g h:=by
 unfold Qs
 exact List.map_congr_left fun q hq=>by
  obtain ⟨h1,h2⟩:=H.mem q hq
  rw[e q.1 h1,Jm e h2]
end
theorem Yaw {σ:Nat→Nat} {p:List Nat} {m n b':Nat} (hσ:∀ b,b < m→b ∈ p→σ b≠b') (bH:b' < n):∀ b,b < m→bU σ p n b≠b':=fun b hb e=>by
 by_cases h:b ∈ p
 ·rw[Kq h]at e;exact hσ b hb h e
 ·rw[Jy h]at e;omega
theorem Vb {m n b:Nat} (hb:b < m):bU id (List.range m) n b=b:=Kq (List.mem_range.2 hb)
section
variable {P:Program} {c:Cx} {h h1 ex:List (Nat × Bk)} {m n:Nat} {v:Bool} {d:Option Nat} {kk:PK} {f:FuncId} {xs:List TV} {args:List AV} {r:AV} {t:List (Nat × AV)} {r0:List bG} {K:St→Prop}
theorem Ba {p:List Nat} (H:HL h m) (hn:m≤n) (hp:∀ b ∈ p,b < m) (hex:∀ q ∈ ex,m≤q.1∧q.1 < n) (hc:Qt none (aF c.gl (⟨t,ex++h,n⟩:St).fs xs)∧mG v f ((aF c.gl (⟨t,ex++h,n⟩:St).fs xs).map Qj)=some (f,args)∧ah m args) :
  mI c.gl xs v f args id p m t ex h n:=by
 refine ⟨fun b b' _ _ e=>e,fun b hb=>by show b < n;omega,H,hp,fun q hq=>⟨fun b hb e=>by have:=(hex q hq).1;have e:b=q.1:=e;omega,(hex q hq).2⟩,?_,?_,hc.2.2⟩
 ·rw[Jw];exact hc.1
 ·rw[Jw,Jf];exact hc.2.1
theorem Hs (H1:HL h1 m) (hr:Qf m r):Zr t ex h1 id (List.range m) m n d r=St.bD ⟨t,ex++h1,n + m⟩ d r:=by
 have e:aD (bU id (List.range m) n) r=r:=uG (n:=m) (fun b hb=>Vb hb) r hr
 unfold Zr
 rw[Ed H1 (f:=bU id (List.range m) n) (g:=id) fun b hb=>Vb hb,Jw,e]
theorem Xz (f:FuncId) (l:List AV):mG false f l=some (f,l):=rfl
theorem ru (hq:GD P c.gl f args h m (List.range m) r h1) (H:HL h m) (H1:HL h1 m) (hr:Qf m r) (hn:m≤n) (hex:∀ q ∈ ex,m≤q.1∧q.1 < n) (hk:kk=(bif v then .cY else .call f))
  (hc:Qt none (aF c.gl (⟨t,ex++h,n⟩:St).fs xs)∧mG v f ((aF c.gl (⟨t,ex++h,n⟩:St).fs xs).map Qj)=some (f,args)∧ah m args) (hx:XP P c r0 K (St.bD ⟨t,ex++h1,n + m⟩ d r)):Xw P c (.pd d kk xs none) r0 K ⟨t,ex++h,n⟩:=by
 have:=Lk (d:=d) (r0:=r0) (K:=K) hq (Ba (v:=v) H hn (fun b hb=>List.mem_range.1 hb) hex hc) hk H1 hr (by rw[Hs H1 hr];exact hx)
 rw[Jw]at this;exact this
theorem Ht {p:List Nat} {anc:List Nat} {fs:List bp} (hq:GD P c.gl f args h m p r h1) (H:HL h m) (H1:HL h1 m) (hr:Qf m r) (hn:m≤n) (hp:∀ b ∈ p,b < m) (hex:∀ q ∈ ex,m≤q.1∧q.1 < n) (hk:kk=(bif v then .cY else .call f))
  (hc:Qt none (aF c.gl (⟨t,ex++h,n⟩:St).fs xs)∧mG v f ((aF c.gl (⟨t,ex++h,n⟩:St).fs xs).map Qj)=some (f,args)∧ah m args) (hx:XD P c anc r0 (⟨Xf xs,gP id m n,d.toList,gP id m n⟩::fs) K (Zr t ex h1 id p m n d r)):Zi P c anc (.pd d kk xs none) r0 fs K ⟨t,ex++h,n⟩:=by
 have:=C2 (d:=d) (anc:=anc) (fs:=fs) (r0:=r0) (K:=K) hq (Ba (v:=v) H hn hp hex hc) hk H1 hr hx
 rw[Jw]at this;exact this
theorem sQ {p pp:List Nat} {s3:St} (aY:∀ q ∈ c.gh,q.1 ∈ pp) (hq:GD P c.gl f args h m p r h1) (H:HL h m) (H1:HL h1 m) (hr:Qf m r) (hn:m≤n) (hp:∀ b ∈ p,b < m) (hex:∀ q ∈ ex,m≤q.1∧q.1 < n) (hk:kk=(bif v then .cY else .call f))
  (hc:Qt none (aF c.gl (⟨t,ex++h,n⟩:St).fs xs)∧mG v f ((aF c.gl (⟨t,ex++h,n⟩:St).fs xs).map Qj)=some (f,args)∧ah m args) (gC:To pp (Zr t ex h1 id p m n d r) s3) (hx:XP P c r0 K s3):Xw P c (.pd d kk xs none) r0 K ⟨t,ex++h,n⟩:=by
 have aX:=Ba (v:=v) H hn hp hex hc
 refine .inr fun ops io he g a w hR K' Q' hK=>?_
 have hA:=xy (d:=d) hq aX hk H1 hr ops io he
 rw[Jw]at hA
 refine hA.step _ (fun _ _=>rfl) (fun _ _=>rfl) g a w hR K' Q' fun g2 a' w' bR=>?_
 rw[zB hA.bh hA.cZ]at bR
 obtain ⟨g3,jD⟩:=gC c g2 a' w' aY bR
 exact hK g3 s3 a' w' hx jD
end
def Yen (p q:Int × Fl):Prop:=p.2.map=q.2.map∧p.2.rem=q.2.rem∧p.2.rport=q.2.rport
structure NJ (S:NS):Prop where
 gt:GT S.tb
 wf:S.tb.wf
 ids:∀ q ∈ S.fl,1≤q.1∧q.1≤S.b7
 dJ:S.fl.Pairwise fun p q=>p.1≠q.1
 len:S.fl.length≤48
 kJ:∀ q ∈ S.fl,q.2.map ∈ S.tb.maps
 has:∀ m ∈ S.tb.maps,∃ q ∈ S.fl,q.2.map=m
 ry:S.fl.Pairwise fun p q=>¬ Yen p q
 now:S.now≤549755813888
 lH:0≤S.b7
 ref:S.ref≤4
structure NI (S:NS):Prop extends NJ S where
 due:∀ q ∈ S.fl,(S.now:Int) < q.2.due∧q.2.due≤S.now + 60
theorem NJ.ok {S:NS} (h:NJ S):S.tb.ok:=h.gt.ok h.wf
theorem Hu (p s:Int):4≤Kg p s∧Kg p s≤60:=by
 unfold Kg
 (repeat' split)<;>omega
theorem Vc (af st sd du fl:Int) (cn:Bool) {now:Int} (h0:0≤now) (h1:now≤549755813888):(oT af st sd du fl cn now).2.2=du∨∃ d,4≤d∧d≤60∧(oT af st sd du fl cn now).2.2=now + d:=by
 have key:∀ x:Int × Int × Bool,(if x.2.2=true then IntKind.i64.wrap (now + Kg af x.1) else du)=du∨∃ d,4≤d∧d≤60∧(if x.2.2=true then IntKind.i64.wrap (now + Kg af x.1) else du)=now + d:=fun x=>by
  split
  ·right
   have:=Hu af x.1
   refine ⟨Kg af x.1,this.1,this.2,?_⟩
   rw[IntKind.wrap_i64]
   omega
  ·exact .inl rfl
 exact key _
theorem NJ.begin {S:NS} (h:NJ S) {tb:Tb} (hg:GT tb) (hw:tb.wf) (ct:∀ m ∈ S.tb.maps,m ∈ tb.maps) {f:Fl} (bV:∀ m ∈ tb.maps,m ∈ S.tb.maps∨m=f.map) (aG:f.map ∈ tb.maps) (cd:∀ q ∈ S.fl,¬ (q.2.map=f.map∧q.2.rem=f.rem∧q.2.rport=f.rport)) (hl:S.fl.length < 48):NJ (({ S with tb:=tb }:NS).begin f) where
 gt:=hg
 wf:=hw
 ids q hq:=by
  have h0:=h.lH
  rcases List.mem_append.1 hq with hq|hq
  ·have:=h.ids q hq
   show _∧q.1≤S.b7 + 1
   omega
  ·obtain rfl:=List.mem_singleton.1 hq
   show 1≤S.b7 + 1∧S.b7 + 1≤S.b7 + 1
   omega
 dJ:=by
  refine List.pairwise_append.2 ⟨h.dJ,by simp,fun p hp q hq=>?_⟩
  obtain rfl:=List.mem_singleton.1 hq
  have:=h.ids p hp
  show p.1≠S.b7 + 1
  omega
 len:=by
  show (S.fl++[_]).length≤48
  rw[List.length_append];simp;omega
 kJ q hq:=by
  rcases List.mem_append.1 hq with hq|hq
  ·exact ct _ (h.kJ q hq)
  ·obtain rfl:=List.mem_singleton.1 hq;exact aG
 has m hm:=by
  rcases bV m hm with h1|rfl
  ·obtain ⟨q,hq,e⟩:=h.has m h1
   exact ⟨q,List.mem_append_left _ hq,e⟩
  ·exact ⟨_,List.mem_append_right _ (List.mem_singleton.2 rfl),rfl⟩
 ry:=by
  refine List.pairwise_append.2 ⟨h.ry,by simp,fun p hp q hq=>?_⟩
  obtain rfl:=List.mem_singleton.1 hq
  exact cd p hp
 now:=h.now
 lH:=by have:=h.lH;show 0≤S.b7 + 1;omega
 ref:=h.ref
theorem NI.begin {S:NS} (h:NI S) {tb:Tb} (hg:GT tb) (hw:tb.wf) (ct:∀ m ∈ S.tb.maps,m ∈ tb.maps) {f:Fl} (bV:∀ m ∈ tb.maps,m ∈ S.tb.maps∨m=f.map) (aG:f.map ∈ tb.maps) (cd:∀ q ∈ S.fl,¬ (q.2.map=f.map∧q.2.rem=f.rem∧q.2.rport=f.rport)) (hl:S.fl.length < 48):NI (({ S with tb:=tb }:NS).begin f) where
 toNJ:=h.toNJ.begin hg hw ct bV aG cd hl
 due q hq:=by
  rcases List.mem_append.1 hq with hq|hq
  ·exact h.due q hq
  ·obtain rfl:=List.mem_singleton.1 hq
   have:=Hu f.map.af f.st
   show (S.now:Int) < S.now + Kg f.map.af f.st∧(S.now:Int) + Kg f.map.af f.st≤S.now + 60
   omega
theorem NC {S:NS} {k:Int} {p:Pk} {cn:Bool} {q:Int × Fl} (hq:q ∈ (S.goes k p cn).fl):∃ r ∈ S.fl,q.1=r.1∧q.2.map=r.2.map∧q.2.rem=r.2.rem∧q.2.rport=r.2.rport∧(q.2=r.2∨q.2=r.2.next p cn S.now):=by
 obtain ⟨r,hr,rfl⟩:=List.mem_map.1 hq
 refine ⟨r,hr,?_⟩
 split
 ·exact ⟨rfl,rfl,rfl,rfl,.inr rfl⟩
 ·exact ⟨rfl,rfl,rfl,rfl,.inl rfl⟩
theorem NI.goes {S:NS} (h:NI S) (k:Int) (p:Pk) (cn:Bool):NI (S.goes k p cn) where
 gt:=h.gt
 wf:=h.wf
 ids q hq:=by
  obtain ⟨r,hr,e,_⟩:=NC hq
  rw[e];exact h.ids r hr
 dJ:=by
  refine List.pairwise_map.2 (h.dJ.imp fun {a b} DN=>?_)
  (repeat' split)<;>exact DN
 len:=by show (S.fl.map _).length≤48;rw[List.length_map];exact h.len
 kJ q hq:=by
  obtain ⟨r,hr,_,e,_⟩:=NC hq
  rw[e];exact h.kJ r hr
 has m hm:=by
  obtain ⟨q,hq,e⟩:=h.has m hm
  refine ⟨_,List.mem_map.2 ⟨q,hq,rfl⟩,?_⟩
  split<;>exact e
 ry:=by
  refine List.pairwise_map.2 (h.ry.imp fun {a b} DN=>?_)
  (repeat' split)<;>exact DN
 now:=h.now
 lH:=h.lH
 ref:=h.ref
 due q hq:=by
  obtain ⟨r,hr,_,_,_,_,e⟩:=NC hq
  have hd:=h.due r hr
  rcases e with e|e
  ·rw[e];exact hd
  ·rw[e]
   rcases Vc r.2.map.af r.2.st r.2.side r.2.due p.flags cn (now:=S.now) ae (by have:=h.now;omega) with e2|⟨d,h1,h2,e2⟩
   ·show (S.now:Int) < (oT _ _ _ _ _ _ _).2.2∧(oT _ _ _ _ _ _ _).2.2≤S.now + 60
    rw[e2];exact hd
   ·show (S.now:Int) < (oT _ _ _ _ _ _ _).2.2∧(oT _ _ _ _ _ _ _).2.2≤S.now + 60
    rw[e2];omega
theorem Vd {S:NS} {m:Mp} {r rp:Int} (h0:∀ q ∈ S.fl,1≤q.1) (h:S.findF m r rp=0):∀ q ∈ S.fl,¬ (q.2.map=m∧q.2.rem=r∧q.2.rport=rp):=by
 intro q hq ⟨e1,e2,e3⟩
 unfold NS.findF at h
 split at h
 ·rename_i x hx
  have:=h0 x (List.mem_of_find?_eq_some hx)
  omega
 ·rename_i hx
  have:=List.find?_eq_none.1 hx q hq
  simp[e1,e2,e3]at this
theorem NJ.cu {x:NS × List Ev} (h:NJ x.1) (k:Int):NJ (Proofs.YtogckmommodmhaaGreatDoor.cu x k).1:=by
 obtain ⟨S,es⟩:=x
 unfold Proofs.YtogckmommodmhaaGreatDoor.cu
 dsimp only at h ⊢
 cases hf:S.fl.find? (fun q=>q.1 == k) with
 | none=>exact h
 | some q =>
  have hq:=List.mem_of_find?_eq_some hf
  have hk:q.1=k:=by simpa using List.find?_some hf
  have ct:(S.fl.filter fun r=>!(r.1 == k)).Sublist S.fl:=List.filter_sublist
  have bJ:∀ r,r ∈ (S.fl.filter fun r=>!(r.1 == k)) ↔ r ∈ S.fl∧r.1≠k:=fun r=>by simp
  dsimp only
  split
  ·rename_i oU
   obtain ⟨r,hr,er⟩:=List.any_eq_true.1 oU
   have er:r.2.map=q.2.map:=by simpa using er
   exact ⟨h.gt,h.wf,fun r hr=>h.ids r (ct.subset hr),h.dJ.sublist ct,Nat.le_trans ct.length_le h.len,fun r hr=>h.kJ r (ct.subset hr),fun m hm=>by
    obtain ⟨p,hp,e⟩:=h.has m hm
    by_cases mf:p.1=k
    ·have:p=q:=by
      have iX:=List.pairwise_iff_getElem.1 h.dJ
      obtain ⟨i,hi,rfl⟩:=List.getElem_of_mem hp
      obtain ⟨j,hj,rfl⟩:=List.getElem_of_mem hq
      rcases Nat.lt_trichotomy i j with h1|h1|h1
      ·exact (iX i j hi hj h1 (by rw[mf,hk])).elim
      ·subst h1;rfl
      ·exact (iX j i hj hi h1 (by rw[mf,hk])).elim
     subst this
     exact ⟨r,hr,er.trans e⟩
    ·exact ⟨p,(bJ p).2 ⟨hp,mf⟩,e⟩,h.ry.sublist ct,h.now,h.lH,h.ref⟩
  ·rename_i oU
   obtain ⟨i,hi,ND,g1,g2,g3,g4⟩:=h.gt.cls h.wf (h.kJ q hq)
   have cd:∀ r ∈ (S.fl.filter fun r=>!(r.1 == k)),r.2.map≠q.2.map:=fun r hr e=>oU (List.any_eq_true.2 ⟨r,hr,by simpa using e⟩)
   have AN:∀ o ∈ S.tb.maps.eraseIdx i,o≠q.2.map:=fun o ho e=>by
    have:=List.find?_eq_none.1 (Yfm h.gt ND) o ho
    rw[e]at this
    exact this (TF _)
   exact ⟨g1,g2,fun r hr=>h.ids r (ct.subset hr),h.dJ.sublist ct,Nat.le_trans ct.length_le h.len,fun r hr=>by
     rw[g3]
     obtain ⟨j,hj,e⟩:=List.getElem_of_mem (h.kJ r (ct.subset hr))
     refine List.mem_eraseIdx_iff_getElem.2 ⟨j,hj,fun e2=>?_,e⟩
     subst e2
     rw[List.getElem?_eq_getElem hj]at ND
     exact cd r hr (e.symm.trans (Option.some.inj ND)),fun m hm=>by
     have jI:m ∈ S.tb.maps.eraseIdx i:=by rw[← g3];exact hm
     obtain ⟨p,hp,e⟩:=h.has m (List.mem_of_mem_eraseIdx jI)
     refine ⟨p,(bJ p).2 ⟨hp,fun mf=>?_⟩,e⟩
     have:p=q:=by
      have iX:=List.pairwise_iff_getElem.1 h.dJ
      obtain ⟨i,hi,rfl⟩:=List.getElem_of_mem hp
      obtain ⟨j,hj,rfl⟩:=List.getElem_of_mem hq
      rcases Nat.lt_trichotomy i j with h1|h1|h1
      ·exact (iX i j hi hj h1 (by rw[mf,hk])).elim
      ·subst h1;rfl
      ·exact (iX j i hj hi h1 (by rw[mf,hk])).elim
     subst this
     exact AN m jI e.symm,h.ry.sublist ct,h.now,h.lH,h.ref⟩
def Fl.zero:List AV:=[.int .i64 0,.int .i64 0,.int .i64 0,.int .i64 0,.int .i64 0,.int .i64 0,.int .i64 0,.int .i64 0,.int .i64 0,.int .i64 0]
def fS (l:List (Int × Fl)):List (AV × AV):=l.map fun q=>(.int .i64 q.1,.agg q.2.enc)
theorem Ku:dG Tryz.prog 89 false [.int .i64] (.agg Fl.zero):=dG.mk' (by kernel_rfl)
structure NB (S:NS):Prop where
 wf:S.tb.wf
 ids:∀ q ∈ S.fl,1≤q.1∧q.1≤S.b7
 dJ:S.fl.Pairwise fun p q=>p.1≠q.1
 now:S.now≤549755813888
 lH:0≤S.b7
theorem NJ.nb {S:NS} (h:NJ S):NB S:=⟨h.wf,h.ids,h.dJ,h.now,h.lH⟩
theorem NB.rz {S:NS} (h:NB S) {tb:Tb} (hw:tb.wf):NB { S with tb:=tb }:=⟨hw,h.ids,h.dJ,h.now,h.lH⟩
def NS.tl (S:NS):List AV:=[.mp 68,.sl 1 69 0 S.fl.length S.fl.length,.int .i64 S.b7,.ptr 0 0,.int .i64 S.told,.int .i64 S.ref,.int .i64 S.aE,.bool S.loose]
def NS.cells (S:NS):List AV:=S.tb.enc++S.tl
def Qk (S:NS) (T:WT):List (Nat × Bk):=(67,.cells S.cells)::(68,.aC (fS S.fl) false)::(69,.cells (Qo S.keys))::T.hb
theorem NS.aP {S:NS} (h:S.tb.wf):S.cells.length=38:=by simp[NS.cells,NS.tl,Tb.aA h]
theorem NS.ef {S:NS} (h:S.tb.wf):S.cells.take 30=S.tb.enc:=by
 unfold NS.cells
 rw[← Tb.aA h,List.take_left]
theorem NS.cG {S:NS} (h:S.tb.wf) (j:Nat):S.cells.getD (30 + j) .any=S.tl.getD j .any:=by
 unfold NS.cells
 rw[← Tb.aA h]
 simp[List.getD,List.getElem?_append_right]
theorem NS.dw {S:NS} (h:S.tb.wf) (j:Nat) (v:AV):S.cells.set (30 + j) v=S.tb.enc++S.tl.set j v:=by
 unfold NS.cells
 rw[List.set_append,if_neg (by rw[Tb.aA h];omega),Tb.aA h,Nat.add_sub_cancel_left]
theorem NS.eJ {S:NS} (h:S.tb.wf):S.cells.getD 30 .any=.mp 68:=NS.cG h 0
theorem NS.iH {S:NS} (h:S.tb.wf):S.cells.getD 31 .any=.sl 1 69 0 S.fl.length S.fl.length:=NS.cG h 1
theorem NS.Hv {S:NS} (h:S.tb.wf):S.cells.getD 32 .any=.int .i64 S.b7:=NS.cG h 2
theorem NS.jc {S:NS} (h:S.tb.wf):S.cells.getD 33 .any=.ptr 0 0:=NS.cG h 3
theorem NS.rA {S:NS} (h:S.tb.wf):S.cells.getD 34 .any=.int .i64 S.told:=NS.cG h 4
theorem NS.uO {S:NS} (h:S.tb.wf):S.cells.getD 35 .any=.int .i64 S.ref:=NS.cG h 5
theorem NS.fe {S:NS} (h:S.tb.wf):S.cells.getD 36 .any=.int .i64 S.aE:=NS.cG h 6
theorem NS.uP {S:NS} (h:S.tb.wf):S.cells.getD 37 .any=.bool S.loose:=NS.cG h 7
theorem Ve (n:Nat) (l:List (Int × Fl)):∀ q ∈ fS l,Qf n q.1∧Qf n q.2:=fun q hq=>by
 obtain ⟨t,_,rfl⟩:=List.mem_map.1 hq
 simp[Qf,ah,Fl.enc,Wo]
theorem NS.rB (S:NS):ah 70 S.cells:=by
 simp[NS.cells,NS.tl,vo,Tb.b8,ah,Qf]
theorem Qi {S:NS} {T:WT} (hT:T.wf):HL (Qk S T) 70 where
 mem q hq:=by
  rcases List.mem_cons.1 hq with rfl|hq
  ·exact ⟨(by decide:67 < 70),NS.rB S⟩
  rcases List.mem_cons.1 hq with rfl|hq
  ·exact ⟨(by decide:68 < 70),Ve 70 _⟩
  rcases List.mem_cons.1 hq with rfl|hq
  ·exact ⟨(by decide:69 < 70),by simp[bP,pS]⟩
  ·have:=(WT.gT hT).mem q hq
   exact ⟨by omega,Un aI this.2⟩
 dW b hb:=by
  by_cases h:b < 67
  ·obtain ⟨q,hq,e⟩:=(WT.gT hT).dW b h
   exact ⟨q,by simp[Qk,hq],e⟩
  ·rcases (by omega:b=67∨b=68∨b=69) with rfl|rfl|rfl
   ·exact ⟨_,List.mem_cons_self,rfl⟩
   ·exact ⟨_,List.mem_cons_of_mem _ List.mem_cons_self,rfl⟩
   ·exact ⟨_,List.mem_cons_of_mem _ (List.mem_cons_of_mem _ List.mem_cons_self),rfl⟩
 self q hq:=by
  unfold Qk
  rcases List.mem_cons.1 hq with rfl|hq
  ·rfl
  rcases List.mem_cons.1 hq with rfl|hq
  ·rfl
  rcases List.mem_cons.1 hq with rfl|hq
  ·rfl
  ·have h1:=((WT.gT hT).mem q hq).1
   rw[Qd,if_neg ae,Qd,if_neg ae,Qd,if_neg ae,((WT.gT hT).live h1 70).1]
   exact (WT.gT hT).self q hq
theorem yA:FT Tryz.prog 20 Tryz.f20 (aQ Tryz.prog Tryz.f20) [.cell 4 (.ag 4)]:=.of Tryz.func20
theorem Vf:FT Tryz.prog 23 Tryz.f23 (aQ Tryz.prog Tryz.f23) [.cell 2 (.ag 30)]:=.of Tryz.func23
theorem Hw:FT Tryz.prog 24 Tryz.f24 (aQ Tryz.prog Tryz.f24) [.t 2]:=.of Tryz.func24
theorem Vg:FT Tryz.prog 86 Tryz.f86 (aQ Tryz.prog Tryz.f86) [.t 8]:=.of Tryz.func86
theorem Xen:FT Tryz.prog 88 Tryz.f88 (aQ Tryz.prog Tryz.f88) [.cell 6 (.ag 4)]:=.of Tryz.func88
theorem Xjf:FT Tryz.prog 90 Tryz.f90 (aQ Tryz.prog Tryz.f90) [.t 6]:=.of Tryz.func90
theorem Xlv:FT Tryz.prog 91 Tryz.f91 (aQ Tryz.prog Tryz.f91) []:=.of Tryz.func91
theorem Vh:FT Tryz.prog 93 Tryz.f93 (aQ Tryz.prog Tryz.f93) []:=.of Tryz.func93
theorem Xyb:FT Tryz.prog 95 Tryz.f95 (aQ Tryz.prog Tryz.f95) [.t 4]:=.of Tryz.func95
theorem Yb2:FT Tryz.prog 97 Tryz.f97 (aQ Tryz.prog Tryz.f97) [.t 5]:=.of Tryz.func97
theorem Xqj:FT Tryz.prog 100 Tryz.f100 (aQ Tryz.prog Tryz.f100) [.t 3]:=.of Tryz.func100
theorem Xq2:FT Tryz.prog 101 Tryz.f101 (aQ Tryz.prog Tryz.f101) [.t 4]:=.of Tryz.func101
theorem Xz0:FT Tryz.prog 58 Tryz.f58 (aQ Tryz.prog Tryz.f58) [.cell 4 (.ag 4)]:=.of Tryz.func58
theorem Ycl:FT Tryz.prog 59 Tryz.f59 (aQ Tryz.prog Tryz.f59) [.cell 4 (.ag 4)]:=.of Tryz.func59
theorem NF:FT Tryz.prog 60 Tryz.f60 (aQ Tryz.prog Tryz.f60) [.cell 4 (.ag 4)]:=.of Tryz.func60
theorem Xz7:FT Tryz.prog 28 Tryz.f28 (aQ Tryz.prog Tryz.f28) [.t 2]:=.of Tryz.func28
theorem Xxh:FT Tryz.prog 96 Tryz.f96 (aQ Tryz.prog Tryz.f96) [.t 4]:=.of Tryz.func96
theorem Hx:FT Tryz.prog 136 Tryz.f136 (aQ Tryz.prog Tryz.f136) [.t 4]:=.of Tryz.func136
theorem Vi:FT Tryz.prog 99 Tryz.f99 (aQ Tryz.prog Tryz.f99) [.t 4]:=.of Tryz.func99
theorem wx (l:List (Int × Fl)):Ah false [.int .i64] (fS l):=fun q hq=>by
 obtain ⟨t,_,rfl⟩:=List.mem_map.1 hq
 rfl
theorem Hy (l:List (Int × Fl)) (x:Int):jq (fS l) (.int .i64 x)=l.findIdx? fun q=>q.1 == x:=by
 unfold jq fS
 induction l with
 | nil=>rfl
 | cons t D ih =>
  simp only[List.map_cons,List.findIdx?_cons]
  rw[ih]
  by_cases h:t.1=x
  ·simp[h]
  ·simp[h]
theorem NG {l:List (Int × Fl)} (hd:l.Pairwise fun p q=>p.1≠q.1) {i:Nat} (hi:i < l.length):l.findIdx? (fun q=>q.1 == l[i].1)=some i:=by
 rw[List.findIdx?_eq_some_iff_getElem]
 refine ⟨hi,by simp,fun j hj=>?_⟩
 have:=(List.pairwise_iff_getElem.1 hd) j i ae hi hj
 simpa using this
theorem Hz {l:List (Int × Fl)} (hd:l.Pairwise fun p q=>p.1≠q.1) {i:Nat} (hi:i < l.length) (z:AV):pG (fS l) (.int .i64 l[i].1) z=.agg l[i].2.enc:=by
 unfold pG
 rw[Hy,NG hd hi]
 simp[fS,List.getD,hi]
theorem Xro {l:List (Int × Fl)} {x:Int} (h:∀ q ∈ l,q.1≠x) (f:Fl):pH (fS l) (.int .i64 x) (.agg f.enc)=fS (l++[(x,f)]):=by
 unfold pH
 rw[Hy,List.findIdx?_eq_none_iff.2 fun t ht=>by simpa using h t ht]
 simp[fS]
theorem Xxs {l:List (Int × Fl)} (hd:l.Pairwise fun p q=>p.1≠q.1) {i:Nat} (hi:i < l.length) (f:Fl):pH (fS l) (.int .i64 l[i].1) (.agg f.enc)=fS (l.map fun q=>if q.1=l[i].1 then (q.1,f) else q):=by
 unfold pH
 rw[Hy,NG hd hi]
 refine List.ext_getElem (by simp[fS]) fun j h1 h2=>?_
 have hj:j < l.length:=by simpa [fS] using h1
 simp only[fS,List.getElem_set,List.getElem_map]
 by_cases e:i=j
 ·subst e;simp
 ·rw[if_neg e,if_neg]
  intro e2
  have hp:=List.pairwise_iff_getElem.1 hd
  rcases Nat.lt_or_gt_of_ne e with h|h
  ·exact hp i j hi hj h e2.symm
  ·exact hp j i hj hi h e2
theorem NH (S:NS) {i:Nat} (hi:i < S.fl.length):(Qo S.keys).getD i .any=.int .i64 S.fl[i].1:=by
 simp[Qo,NS.keys,List.getD,hi]
theorem Bb (S:NS):(Qo S.keys).length=S.fl.length:=by simp[Qo,NS.keys]
theorem Xvc {S:NS} {m:Mp} {r rp:Int} {i:Nat} (hi:i < S.fl.length) (cd:∀ q ∈ S.fl.take i,¬ (q.2.map=m∧q.2.rem=r∧q.2.rport=rp)) (h:S.fl[i].2.map=m∧S.fl[i].2.rem=r∧S.fl[i].2.rport=rp):S.findF m r rp=S.fl[i].1:=by
 have hs:S.fl=S.fl.take i++S.fl[i]::S.fl.drop (i + 1):=by rw[← List.drop_eq_getElem_cons hi,List.take_append_drop]
 have hf:S.fl.find? (fun q=>decide (q.2.map=m) && q.2.rem == r && q.2.rport == rp)=some S.fl[i]:=by
  conv=>lhs;rw[hs]
  rw[List.find?_append,List.find?_eq_none.2 fun q hq=>by have:=cd q hq;simpa using this,List.find?_cons]
  simp[h.1,h.2.1,h.2.2]
 unfold NS.findF
 rw[hf]
theorem Xi9 {S:NS} {m:Mp} {r rp:Int} (cd:∀ q ∈ S.fl,¬ (q.2.map=m∧q.2.rem=r∧q.2.rport=rp)):S.findF m r rp=0:=by
 unfold NS.findF
 rw[List.find?_eq_none.2 fun q hq=>by have:=cd q hq;simpa using this]
theorem Yl {S:NS} {T:WT} (hT:T.wf) (n b:Nat) (hb:70≤b):Qc (Qk S T) n b=if b < n then .dead else .free:=by
 unfold Qk
 rw[Qd,if_neg ae,Qd,if_neg ae,Qd,if_neg ae,WT.oO hT n b ae]
theorem Kj (S:NS) (T:WT) (n:Nat):Qc (Qk S T) n 67=.cells S.cells:=rfl
theorem uQ (S:NS) (T:WT) (n:Nat):Qc (Qk S T) n 68=.aC (fS S.fl) false:=rfl
theorem uR (S:NS) (T:WT) (n:Nat):Qc (Qk S T) n 69=.cells (Qo S.keys):=rfl
theorem Zu {S:NS} {T:WT} (hT:T.wf):∀ q ∈ Qk S T,q.2.live:=fun q hq=>Xc ((Qi hT).mem q hq).2
theorem To.jY {p:List Nat} {t t':List (Nat × AV)} {ex:List (Nat × Bk)} {S:NS} {T:WT} {n:Nat} (hT:T.wf) (hex:∀ q ∈ ex,70≤q.1) (hp:∀ b ∈ p,b < 70) (ht:Qu id 70 t t'):To p ⟨t,ex++Qk S T,n⟩ ⟨t',Qk S T,70⟩:=by
 have fw:∀ b,b < 70→Qc (ex++Qk S T) n b=Qc (Qk S T) 70 b:=fun b hb=>by
  rw[Qw fun q hq e=>by have:=hex q hq;omega]
  exact ((Qi hT).live hb n).1
 refine To.lk id (fun b hb=>⟨rfl,hp b hb⟩) (fun b cR=>?_) (fun b hb kf=>?_) (fun b hb=>Yl hT 70 b hb |>.trans (if_neg (by have hb:70≤b:=hb;omega))) (fun b b' _ _ _ _ e=>e) (fun b hb cR=>?_) ht
 ·by_cases h:b < 70
  ·exact h
  ·have cR:(Qc (Qk S T) 70 b).live:=cR
   rw[Yl hT 70 b ae,if_neg h]at cR
   exact cR.elim
 ·obtain ⟨_,q,hq,_,e⟩:=(Qi (S:=S) hT).live hb 70
  exact (kf (by show (Qc (Qk S T) 70 b).live;rw[e];exact Xc ((Qi hT).mem q hq).2)).elim
 ·obtain ⟨_,q,hq,_,e⟩:=(Qi (S:=S) hT).live hb 70
  refine ⟨?_,?_⟩
  ·show bP 70 (Qc (Qk S T) 70 b)
   rw[e];exact ((Qi hT).mem q hq).2
  ·show Qc (ex++Qk S T) n b=Qx id (Qc (Qk S T) 70 b)
   rw[fw b hb,Kb]
theorem To.rC {p:List Nat} {t t':List (Nat × AV)} {ex:List (Nat × Bk)} {S:NS} {T:WT} {x:Bk} {n:Nat} (hT:T.wf) (hex:∀ q ∈ ex,71≤q.1) (hx:bP 70 x) (hp:∀ b ∈ p,b < 70) (ht:Qu id 71 t t'):To p ⟨t,ex++(70,x)::Qk S T,n⟩ ⟨t',(70,x)::Qk S T,71⟩:=by
 have hl:∀ b,b < 70→Qc ((70,x)::Qk S T) 71 b=Qc (Qk S T) 70 b:=fun b hb=>by
  rw[Qd,if_neg ae]
  exact ((Qi hT).live hb 71).1
 have Vj:Qc ((70,x)::Qk S T) 71 70=x:=by rw[Qd,if_pos rfl]
 have hs:∀ b,b < 71→Qc (ex++(70,x)::Qk S T) n b=Qc ((70,x)::Qk S T) 71 b:=fun b hb=>by
  rw[Qw fun q hq e=>by have:=hex q hq;omega]
  by_cases h:b=70
  ·subst h;rw[Vj,Qd,if_pos rfl]
  ·rw[hl b ae,Qd,if_neg ae]
   exact ((Qi hT).live ae n).1
 have kn:∀ b,b < 71→(Qc ((70,x)::Qk S T) 71 b).live∧bP 70 (Qc ((70,x)::Qk S T) 71 b):=fun b hb=>by
  by_cases h:b=70
  ·subst h;rw[Vj];exact ⟨Xc hx,hx⟩
  ·rw[hl b ae]
   obtain ⟨_,q,hq,_,e⟩:=(Qi (S:=S) hT).live (show b < 70 by omega) 70
   rw[e]
   have:=((Qi hT).mem q hq).2
   exact ⟨Xc this,this⟩
 have nz:∀ b,71≤b→Qc ((70,x)::Qk S T) 71 b=.free:=fun b hb=>by
  rw[Qd,if_neg ae,Yl hT 71 b ae,if_neg ae]
 refine To.lk id (fun b hb=>⟨rfl,by have:=hp b hb;show b < 71;omega⟩) (fun b cR=>?_) (fun b hb kf=>(kf (kn b hb).1).elim) (fun b hb=>nz b hb) (fun b b' _ _ _ _ e=>e) (fun b hb cR=>⟨Un (show 70≤71 by decide) (kn b hb).2,by show Qc (ex++(70,x)::Qk S T) n b=Qx id (Qc ((70,x)::Qk S T) 71 b);rw[hs b hb,Kb]⟩) ht
 by_cases h:b < 71
 ·exact h
 ·have cR:(Qc ((70,x)::Qk S T) 71 b).live:=cR
  rw[nz b ae]at cR
  exact cR.elim
set_option maxHeartbeats 4000000 in
set_option maxRecDepth 20000 in
theorem Vk (gl:Nat→AV) (S:NS) (T:WT) (hS:NJ S) (hT:T.wf) (m:Mp) (r rp:Int):GD Tryz.prog gl 86 [.ptr 67 0,.agg m.enc,.int .i64 r,.int .i64 rp] (Qk S T) 70 (List.range 70) (.int .i64 (S.findF m r rp)) (Qk S T):=by
 refine Vg.gq (of_decide_eq_true rfl) (Zu hT) (fun b hb=>List.mem_range.1 hb) fun c aY hg=>?_
 conv in aQ _ _=>cbv
 have aM:=fun n b hb=>Yl (S:=S) hT n b hb
 have bE:=Kj S T
 have oV:=uQ S T
 have sS:=uR S T
 have aW:=NS.aP hS.wf
 have eJ:=NS.eJ hS.wf
 have iH:=NS.iH hS.wf
 have ib:=Bb S
 obtain ⟨mp,ms,mi,ma,mt⟩:=m
 unfold Mp.enc
 refine Qh (An @aM (An @bE (An @aW @iH))) ?_
 refine Yf (fun k:Nat=>k≤S.fl.length∧∀ q ∈ S.fl.take k,¬ (q.2.map=⟨mp,ms,mi,ma,mt⟩∧q.2.rem=r∧q.2.rport=rp)) (fun k=>⟨[(0,.ptr 67 0),(2,.int .i64 r),(3,.int .i64 rp),(5,.ptr 70 0),(15,.sl 1 69 0 S.fl.length S.fl.length),(16,.int .i64 S.fl.length),(17,.int .i64 k)],(70,.cells [.int .i64 mp,.int .i64 ms,.int .i64 mi,.int .i64 ma,.int .i64 mt])::Qk S T,71⟩) (fun k=>S.fl.length - k) Vg.mixed (List.range 70) aY
  ⟨0,⟨by omega,by simp⟩,To.dk (by exact Qr) fun b=>rfl⟩ fun k hk=>?_
 obtain ⟨hk,cd⟩:=hk
 have Vl:=hS.len
 refine Qe ?_
 (refine Qa (fun h1=>?_) (fun h1=>?_)<;>try exact h1.elim)
 ·have bw:k < S.fl.length:=by omega
  have jt:=NH S bw
  have ed:=Hz hS.dJ bw (.agg Fl.zero)
  have dX:=wx S.fl
  have dO:=Um S.fl[k].1
  have Ao:=Xvc (S:=S) (m:=⟨mp,ms,mi,ma,mt⟩) (r:=r) (rp:=rp) bw cd
  have wy:¬ (S.fl[k].2.map=⟨mp,ms,mi,ma,mt⟩∧S.fl[k].2.rem=r∧S.fl[k].2.rport=rp)→∀ q ∈ S.fl.take (k + 1),¬ (q.2.map=⟨mp,ms,mi,ma,mt⟩∧q.2.rem=r∧q.2.rport=rp):=fun h q hq=>by
   rw[List.take_succ,List.mem_append]at hq
   rcases hq with hq|hq
   ·exact cd q hq
   ·simp[bw]at hq;subst hq;exact h
  generalize S.fl[k]=q at *
  obtain ⟨x,⟨⟨p0,p1,p2,p3,p4⟩,g0,g1,g2,g3,g4⟩⟩:=q
  unfold Fl.enc Wo at ed
  dsimp only at ed Ao wy jt dO
  have heq:=@Dz c false ⟨p0,p1,p2,p3,p4⟩ ⟨mp,ms,mi,ma,mt⟩
  unfold Mp.enc at heq
  dsimp only at heq
  refine Qh (An @sS (An @ib (An @jt (An @bE (An @aW @eJ))))) ?_
  ((first|refine nt Ku ?_|refine Ww Ku ?_);(have aJ:=@oV;have bm:=@dX;have bL:=@dO;have cf:=@ed;have cF:=@aM;refine XG ?_;clear aJ bm bL cf cF;((try (repeat' with_reducible refine And.intro ?_ ?_));(try any_goals (first|refine zm ?_|exact CL|fail)))))
  by_cases hm:(⟨p0,p1,p2,p3,p4⟩:Mp)=⟨mp,ms,mi,ma,mt⟩
  ·rw[decide_eq_true hm]at heq
   by_cases hr:g0=r∧g1=rp
   ·have f1:(g0 == r)=true:=beq_iff_eq.2 hr.1
    have f2:(g1 == rp)=true:=beq_iff_eq.2 hr.2
    have e:=Ao ⟨hm,hr.1,hr.2⟩
    refine Qv heq @aM ?_
    refine Qh (An @f1 @f2) ?_
    (refine Qa (fun h2=>?_) (fun h2=>?_)<;>try exact h2.elim)
    refine Qe ?_
    refine ⟨(),?_⟩
    rw[e]
    exact To.jY (ex:=[(71,_),(71,_),(70,_)]) hT au (fun b hb=>List.mem_range.1 hb) (by simp[Qu,Qf,look,aD])
   ·have yr:=wy fun h=>hr ⟨h.2.1,h.2.2⟩
    by_cases h0:g0=r
    ·have f1:(g0 == r)=true:=beq_iff_eq.2 h0
     have f2:(g1 == rp)=false:=beq_eq_false_iff_ne.2 fun e=>hr ⟨h0,e⟩
     refine Qv heq @aM ?_
     refine Qh (An @f1 @f2) ?_
     (refine Qa (fun h2=>?_) (fun h2=>?_)<;>try exact h2.elim)
     refine Qe ?_
     exact ⟨k + 1,⟨by omega,yr⟩,To.rC (ex:=[(71,_),(71,_)]) hT au (by simp[bP,ah,Qf]) (fun b hb=>List.mem_range.1 hb) (by simp[Qu,Qf,ah,look,aD]),by omega⟩
    ·have f1:(g0 == r)=false:=beq_eq_false_iff_ne.2 h0
     refine Qv heq @aM ?_
     refine Qh @f1 ?_
     (refine Qa (fun h2=>?_) (fun h2=>?_)<;>try exact h2.elim)
     refine Qe ?_
     exact ⟨k + 1,⟨by omega,yr⟩,To.rC (ex:=[(71,_),(71,_)]) hT au (by simp[bP,ah,Qf]) (fun b hb=>List.mem_range.1 hb) (by simp[Qu,Qf,ah,look,aD]),by omega⟩
  ·have yr:=wy fun h=>hm h.1
   rw[decide_eq_false hm]at heq
   refine Qv heq @aM ?_
   (refine Qa (fun h2=>?_) (fun h2=>?_)<;>try exact h2.elim)
   refine Qe ?_
   exact ⟨k + 1,⟨by omega,yr⟩,To.rC (ex:=[(71,_),(71,_)]) hT au (by simp[bP,ah,Qf]) (fun b hb=>List.mem_range.1 hb) (by simp[Qu,Qf,ah,look,aD]),by omega⟩
 ·obtain rfl:k=S.fl.length:=by omega
  rw[List.take_length]at cd
  rw[Xi9 cd]
  refine Qe ?_
  exact ⟨(),To.jY (ex:=[(70,_)]) hT au (fun b hb=>List.mem_range.1 hb) (by simp[Qu,Qf,look,aD])⟩
theorem To.NL {p:List Nat} {t t':List (Nat × AV)} {h:List (Nat × Bk)} {S:NS} {T:WT} {n:Nat} (ρ:Nat→Nat) (hT:T.wf) (hp:∀ b ∈ p,ρ b=b∧b < 70) (bN:∀ b b',b < 70→b' < 70→ρ b=ρ b'→b=b') (hl:∀ b,b < 70→Qc h n (ρ b)=Qx ρ (Qc (Qk S T) 70 b)) (ht:Qu ρ 70 t t'):To p ⟨t,h,n⟩ ⟨t',Qk S T,70⟩:=by
 refine To.lk ρ (fun b hb=>hp b hb) (fun b cR=>?_) (fun b hb kf=>?_) (fun b hb=>Yl hT 70 b hb |>.trans (if_neg (by have hb:70≤b:=hb;omega))) (fun b b' hb bH _ _ e=>bN b b' hb bH e) (fun b hb cR=>?_) ht
 ·by_cases h:b < 70
  ·exact h
  ·have cR:(Qc (Qk S T) 70 b).live:=cR
   rw[Yl hT 70 b ae,if_neg h]at cR
   exact cR.elim
 ·obtain ⟨_,q,hq,_,e⟩:=(Qi (S:=S) hT).live hb 70
  exact (kf (by show (Qc (Qk S T) 70 b).live;rw[e];exact Xc ((Qi hT).mem q hq).2)).elim
 ·obtain ⟨_,q,hq,_,e⟩:=(Qi (S:=S) hT).live hb 70
  refine ⟨?_,hl b hb⟩
  show bP 70 (Qc (Qk S T) 70 b)
  rw[e];exact ((Qi hT).mem q hq).2
theorem Vm {S S':NS} {T:WT} {ex:List (Nat × Bk)} {n:Nat} (iz:S'.fl=S.fl) (hex:∀ q ∈ ex,70≤q.1∨q=(67,Bk.cells S'.cells)) (bE:Qc (ex++Qk S T) n 67=.cells S'.cells) (hT:T.wf):∀ b,b < 70→Qc (ex++Qk S T) n (id b)=Qx id (Qc (Qk S' T) 70 b):=fun b hb=>by
 rw[Kb]
 show Qc (ex++Qk S T) n b=_
 by_cases h:b=67
 ·subst h;rw[bE];rfl
 ·rw[Qw fun q hq e=>(hex q hq).elim (fun h1=>by omega) fun h1=>h (by rw[h1]at e;exact e.symm),((Qi (S:=S) hT).live hb n).1]
  unfold Qk NS.keys
  rw[iz]
  simp only[Qd]
  (repeat' split)<;>first|rfl|omega
theorem NS.Ee {S:NS} (h:S.tb.wf) (v:Nat):S.cells.set 35 (.int .i64 v)=({ S with ref:=v }:NS).cells:=NS.dw h 5 _
set_option maxHeartbeats 2000000 in
theorem Vn (gl:Nat→AV) (S:NS) (T:WT) (hS:NJ S) (hT:T.wf) (f:List UInt8) (hf:f.length≤140737488351232) (e:Int):GD Tryz.prog gl 88 [.ptr 67 0,.str f,.int .i64 e] (Qk S T) 70 (List.range 70) (.agg (S.refuse f e).1.enc) (Qk (S.refuse f e).2 T):=by
 refine Xen.gq (of_decide_eq_true rfl) (Zu hT) (fun b hb=>List.mem_range.1 hb) fun c aY hg=>?_
 conv in aQ _ _=>cbv
 have aM:=fun n b hb=>Yl (S:=S) hT n b hb
 have bE:=Kj S T
 have aW:=NS.aP hS.wf
 have uO:=NS.uO hS.wf
 have hR:=Xqi c.gl f S.ref hf
 have hr4:=hS.ref
 unfold NS.refuse
 refine Qh (An @aM (An @bE (An @aW @uO))) ?_
 (refine Qa (fun h1=>?_) (fun h1=>?_)<;>try exact h1.elim)
 ·rw[if_pos (.inl ae)]
  unfold bT Rp.enc
  refine Qh @aM ?_
  exact ⟨(),To.jY (ex:=[(70,_),(70,_)]) hT au (fun b hb=>List.mem_range.1 hb) (by simp[Qu,Qf,ah,look,aD,ay])⟩
 by_cases he:bZ f=0
 ·unfold sG at hR
  rw[if_neg ae,if_neg ae]at hR
  rw[if_neg ae]
  have NM:=NS.Ee hS.wf (S.ref - 1)
  have ct:(S.ref:Int) - 1=((S.ref - 1:Nat):Int):=by omega
  unfold Rp.enc
  refine Qh (An @aM (An @bE (An @aW @uO))) ?_
  refine Zq hR ?_
  refine Qe ?_
  (refine Qa (fun h2=>?_) (fun h2=>?_)<;>try exact h2.elim)
  refine Qh (An @aM (An @bE (An @aW (An @uO (An @ct @NM))))) ?_
  exact ⟨(),To.NL id hT (fun b hb=>⟨rfl,List.mem_range.1 hb⟩) (fun b b' _ _ e=>e) (Vm (S':={ S with ref:=S.ref - 1 }) (ex:=[(70,_),(67,_),(70,_)]) rfl au rfl hT) (by simp[Qu,Qf,ah,look,aD,ay])⟩
 ·have bR:sG f S.ref=.aU [.str [],.int .i64 (bZ f)]:=if_pos he
  rw[bR]at hR
  rw[if_pos (.inr he)]
  unfold bT Rp.enc
  refine Qh (An @aM (An @bE (An @aW @uO))) ?_
  refine Zq hR ?_
  refine Qe ?_
  (refine Qa (fun h2=>?_) (fun h2=>?_)<;>try exact h2.elim)
  ·refine Qh @aM ?_
   exact ⟨(),To.jY (ex:=[(70,_),(70,_)]) hT au (fun b hb=>List.mem_range.1 hb) (by simp[Qu,Qf,ah,look,aD,ay])⟩
  ·exact absurd h2 he
theorem NS.s34 {S:NS} (h:S.tb.wf) (v:Nat):S.cells.set 34 (.int .i64 v)=({ S with told:=v }:NS).cells:=NS.dw h 4 _
set_option maxHeartbeats 2000000 in
theorem Vo (gl:Nat→AV) (h0:gl 0=.xp (Qo Xs) 0) (S:NS) (T:WT) (hS:NJ S) (hT:T.wf) (wz:S.told≤100000) (l:List Ev) (hl:l.length≤64) (ha:∀ e ∈ l,Zk e.t e.s e.a e.b=true∧e.t=(l.headD ⟨0,0,0,0,false⟩).t) :
  GD Tryz.prog gl 95 [.ptr 67 0,.isl l.length (Yh l)] (Qk S T) 70 (List.range 70) (.str (jJ S.told l)) (Qk (S.log l) T):=by
 refine Xyb.gq (of_decide_eq_true rfl) (Zu hT) (fun b hb=>List.mem_range.1 hb) fun c aY hg=>?_
 conv in aQ _ _=>cbv
 have aM:=fun n b hb=>Yl (S:=S) hT n b hb
 have bE:=Kj S T
 have aW:=NS.aP hS.wf
 have rA:=NS.rA hS.wf
 have NN:=RA c.gl (by rw[hg];exact h0) 0
 unfold kx at NN
 rw[if_pos ae]at NN
 refine Qe ?_
 (refine Qa (fun h1=>?_) (fun h1=>?_)<;>try exact h1.elim)
 ·obtain rfl:l=[]:=List.eq_nil_of_length_eq_zero ae
  refine Qe ?_
  exact ⟨(),To.jY (ex:=[]) hT au (fun b hb=>List.mem_range.1 hb) (by simp[Qu,Qf,ah,look,aD,ay,jJ])⟩
 cases l with
 | nil=>simp at h1
 | cons e l =>
  have hM:=Xe7 c.gl S.told (e::l) ae
  have cg:wu e.t (e::l)=true:=by
   unfold wu
   rw[List.all_eq_true]
   intro x hx
   obtain ⟨g1,g2⟩:=ha x hx
   have g2:x.t=e.t:=g2
   rw[g1,g2];simp
  have iy:¬ 64 < l.length + 1:=by simp at hl;omega
  unfold wv at hM
  dsimp only at hM
  rw[if_neg iy,if_pos cg]at hM
  unfold kx at hM
  rw[if_pos ae]at hM
  have rD:=NS.s34 hS.wf (S.told + (e::l).length)
  have dz:(S.told:Int) + ((e::l).length:Nat)=((S.told + (e::l).length:Nat):Int):=by omega
  have mT:jJ S.told (e::l)=(if S.told=0 then Yi 0 0 2 (Wh 6) else [])++Yi S.told e.t 300 (Kw (e::l)):=rfl
  rw[mT]
  have kf:(e::l).length=l.length + 1:=rfl
  have hB:(Kw (e::l)).length≤1400:=by rw[A7];omega
  have hE:=fun n=>Ul n (e::l)
  simp only[List.length_cons]at hM rD dz ⊢
  clear kf
  generalize Yh (e::l)=E at *
  generalize Kw (e::l)=B at *
  have Vp:(Yi S.told e.t 300 B).length≤100000:=by
   simp[Yi,Qp];omega
  generalize Yi S.told e.t 300 B=MB at *
  have Vq:(Yi 0 0 2 (Wh 6)).length≤100000:=by decide +kernel
  generalize Yi 0 0 2 (Wh 6)=TB at *
  have oy:∀ (t:List (Nat × AV)) (ex:List (Nat × Bk)) (n:Nat) (r:List UInt8),70≤n→To (List.range 70) ⟨[(0,.str r)],(67,.cells ({ S with told:=S.told + (l.length + 1) }:NS).cells)::Qk S T,70⟩ ⟨[(0,.str r)],Qk (S.log (e::l)) T,70⟩:=fun t ex n r hn =>
   To.NL id hT (fun b hb=>⟨rfl,List.mem_range.1 hb⟩) (fun b b' _ _ e=>e) (Vm (S':=S.log (e::l)) (ex:=[(67,_)]) rfl (by simp[NS.log]) rfl hT) (by simp[Qu,Qf,look,aD])
  by_cases hz:S.told=0
  ·rw[if_pos hz]
   refine Qh (An @bE (An @aW (An @rA @hE))) ?_
   (refine Qa (fun h2=>?_) (fun h2=>?_)<;>try exact h2.elim)
   ·refine Qe ?_
    refine Qv NN (An @bE (An @aW @rA)) ?_
    refine Qh (An @bE (An @aW (An @rA @hE))) ?_
    refine Qv hM (An @hE (An @bE (An @aW (An @rA (An @dz (An @rD (An @Vp @Vq))))))) ?_
    refine Qh (An @bE (An @aW (An @rA (An @dz (An @rD @hE))))) ?_
    exact ⟨(),oy [] [] 70 _ ae⟩
   ·exact absurd hz ae
  ·rw[if_neg hz]
   refine Qh (An @bE (An @aW (An @rA @hE))) ?_
   (refine Qa (fun h2=>?_) (fun h2=>?_)<;>try exact h2.elim)
   ·exact absurd h2 ae
   ·refine Qh (An @bE (An @aW (An @rA @hE))) ?_
    refine Qv hM (An @hE (An @bE (An @aW (An @rA (An @dz (An @rD (An @Vp @Vq))))))) ?_
    refine Qh (An @bE (An @aW (An @rA (An @dz (An @rD @hE))))) ?_
    exact ⟨(),oy [] [] 70 _ ae⟩
section
variable {P:Program} {c:Cx}
theorem Vr {d:Option Nat} {f:FuncId} {xs:List TV} {args:List AV} {T:WT} {n:Nat} {r:AV} {t:List (Nat × AV)} {ex:List (Nat × Bk)} {r0:List bG} {K:St→Prop} (hq:GD P c.gl f args T.hb 67 (List.range 67) r T.hb) (hT:T.wf) (hn:67≤n) (hex:∀ q ∈ ex,67≤q.1∧q.1 < n)
  (hc:Qt none (aF c.gl (⟨t,ex++T.hb,n⟩:St).fs xs)∧(aF c.gl (⟨t,ex++T.hb,n⟩:St).fs xs).map Qj=args∧ah 67 args) (hr:Qf 0 r) (h:XP P c r0 K (St.bD ⟨t,ex++T.hb,n + 67⟩ d r)):Xw P c (.pd d (.call f) xs none) r0 K ⟨t,ex++T.hb,n⟩:=by
 have e:ex++T.hb=ex++Qs id T.hb:=by rw[Jw]
 rw[e]at hc h ⊢
 refine Lk (v:=false) hq (U5 hT (fun b hb=>List.mem_range.1 hb) hn hex ⟨hc.1,?_,hc.2.2⟩) rfl (WT.gT hT) (by have:=Un (Nat.zero_le 67) (x:=.cells [r]) (by simpa [bP,ah] using hr);simpa [bP,ah] using this) (by rw[U6 hT hr];exact h)
 rw[hc.2.1];rfl
end
section
variable {P:Program} {c:Cx}
theorem HA {d:Option Nat} {f:FuncId} {xs:List TV} {args:List AV} {T:WT} {n:Nat} {r:AV} {t:List (Nat × AV)} {ex:List (Nat × Bk)} {anc:List Nat} {fs:List bp} {r0:List bG} {K:St→Prop} (hq:GD P c.gl f args T.hb 67 (List.range 67) r T.hb) (hT:T.wf) (hn:67≤n) (hex:∀ q ∈ ex,67≤q.1∧q.1 < n)
  (hc:Qt none (aF c.gl (⟨t,ex++T.hb,n⟩:St).fs xs)∧(aF c.gl (⟨t,ex++T.hb,n⟩:St).fs xs).map Qj=args∧ah 67 args) (hr:Qf 0 r) (h:XD P c anc r0 (⟨Xf xs,gP id 67 n,d.toList,gP id 67 n⟩::fs) K (St.bD ⟨t,ex++T.hb,n + 67⟩ d r)):Zi P c anc (.pd d (.call f) xs none) r0 fs K ⟨t,ex++T.hb,n⟩:=by
 have e:ex++T.hb=ex++Qs id T.hb:=by rw[Jw]
 rw[e]at hc h ⊢
 refine C2 (v:=false) hq (U5 hT (fun b hb=>List.mem_range.1 hb) hn hex ⟨hc.1,?_,hc.2.2⟩) rfl (WT.gT hT) (by have:=Un (Nat.zero_le 67) (x:=.cells [r]) (by simpa [bP,ah] using hr);simpa [bP,ah] using this) (by rw[U6 hT hr];exact h)
 rw[hc.2.1];rfl
end
set_option maxHeartbeats 2000000 in
theorem Vs (gl:Nat→AV) (S:NS) (T:WT) (D:List Tm) (hS:NB S) (hW:WI T S.now D) (m:Mp) (hm:Dp m) (free:Bool):GD Tryz.prog gl 90 [.ptr 67 0,.agg m.enc,.bool free] (Qk S T) 70 (List.range 70) (.isl 1 (Yh [S.ev m free])) (Qk S T):=by
 have hT:=hW.wf
 refine Xjf.gq (of_decide_eq_true rfl) (Zu hT) (fun b hb=>List.mem_range.1 hb) fun c aY hg=>?_
 conv in aQ _ _=>cbv
 have aM:=fun n b hb=>Yl (S:=S) hT n b hb
 have bE:=Kj S T
 have aW:=NS.aP hS.wf
 have jc:=NS.jc hS.wf
 have eY:=hW.gV c.gl
 have hB:=Dn c.gl m.port hm.2.2.2.2
 unfold uo at hB
 obtain ⟨mp,ms,mi,ma,mt⟩:=m
 unfold NS.ev Mp.enc
 dsimp only at hB ⊢
 refine Qh @aM ?_
 refine Qv hB (An @aM (An @bE (An @aW @jc))) ?_
 refine HA (ex:=[(70,_),(67,_),(68,_),(69,_)]) eY hT aI au (by exact Qr) (by simp[Qf]) ?_
 refine Qe ?_
 have oW:=fun n b hb=>WT.oO hT n (b:=b) hb
 refine Zj (An @aM @oW) ?_
 refine Qh (An @aM @oW) ?_
 refine ⟨(),(To.gb (b:=138) (i:=0) rfl rfl).trans (To.jY (S:=S) (T:=T) (ex:=[(138,.dead),(138,_),(70,_)]) hT au (fun b hb=>List.mem_range.1 hb) ?_)⟩
 simp[Qu,Qf,ah,look,aD,ay,Yh,Ev.enc]
theorem Ydu {S:NS} {t:Tm} (h:t ∈ S.a8):∃ q ∈ S.fl,t.id=q.1∧t.due=q.2.due.toNat:=by
 obtain ⟨q,hq,rfl⟩:=List.mem_map.1 h
 exact ⟨q,hq,rfl,rfl⟩
theorem Xkb {S:NS} (h:NB S) (hl:S.fl.length < 48) {D:List Tm} (hD:D.Perm S.a8) (f:Fl) :
  yx S.now D (S.b7 + 1) (S.now + Kg f.map.af f.st)=(0,D++[⟨S.b7 + 1,(S.now + Kg f.map.af f.st).toNat⟩])∧List.Perm (D++[(⟨S.b7 + 1,(S.now + Kg f.map.af f.st).toNat⟩:Tm)]) (S.begin f).a8:=by
 have hb:=Hu f.map.af f.st
 have hn:=h.now
 have hlen:D.length < 400:=by rw[hD.length_eq];simp[NS.a8];omega
 have bY:∀ t ∈ D,t.id≠S.b7 + 1:=fun t ht e=>by
  obtain ⟨q,hq,e1,_⟩:=Ydu (hD.mem_iff.1 ht)
  have:=(h.ids q hq).2
  omega
 refine ⟨?_,?_⟩
 ·unfold yx
  rw[if_neg ae,if_neg ae]
  have e:Wz D (S.b7 + 1) (max (S.now + Kg f.map.af f.st).toNat S.now)=D++[⟨S.b7 + 1,(S.now + Kg f.map.af f.st).toNat⟩]:=by
   unfold Wz
   rw[He bY,show max (S.now + Kg f.map.af f.st).toNat S.now=(S.now + Kg f.map.af f.st).toNat by omega]
  rw[e]
 ·have e:(S.begin f).a8=S.a8++[⟨S.b7 + 1,(S.now + Kg f.map.af f.st).toNat⟩]:=by
   simp[NS.a8,NS.begin]
  rw[e]
  exact hD.append_right _
def nr (σ:Nat→Nat) (k b:Nat):Nat:=if b < 67 then σ b else if b=69 then k else b
theorem Kt {σ:Nat→Nat} {k b:Nat} (h:b < 67):nr σ k b=σ b:=if_pos h
def NS.Bc (S:NS) (k w:Nat):List AV:=[.mp 68,.sl 1 k 0 S.fl.length S.fl.length,.int .i64 S.b7,.ptr w 0,.int .i64 S.told,.int .i64 S.ref,.int .i64 S.aE,.bool S.loose]
theorem NS.jZ (S:NS) (ρ:Nat→Nat):ay ρ S.cells=S.tb.enc++[.mp (ρ 68),.sl 1 (ρ 69) 0 S.fl.length S.fl.length,.int .i64 S.b7,.ptr (ρ 0) 0,.int .i64 S.told,.int .i64 S.ref,.int .i64 S.aE,.bool S.loose]:=by
 unfold NS.cells NS.tl
 rw[zM,Tb.dA]
 simp[ay,aD]
theorem Vt (ρ:Nat→Nat) (l:List (Int × Fl)):Qx ρ (.aC (fS l) false)=.aC (fS l) false:=by
 simp only[Qx]
 congr 1
 refine (List.map_congr_left fun q hq=>?_).trans (List.map_id _)
 obtain ⟨h1,h2⟩:=Ve 0 l q hq
 show (aD ρ q.1,aD ρ q.2)=q
 rw[sP h1,sP h2]
theorem Vu (ρ:Nat→Nat) (l:List Int):Qx ρ (.cells (Qo l))=.cells (Qo l):=by
 simp only[Qx,zL]
theorem To.yB {p:List Nat} {t t':List (Nat × AV)} {ex:List (Nat × Bk)} {S:NS} {T:WT} {σ:Nat→Nat} {n k:Nat} (hT:T.wf) (hp:∀ b ∈ p,b=67∨b=68) (bN:∀ b b',b < 67→b' < 67→σ b=σ b'→b=b') (hex:∀ q ∈ ex,∀ b,b < 67→σ b≠q.1) (hk:k≠67∧k≠68) (aG:∀ b,b < 67→σ b≠67∧σ b≠68∧σ b≠k)
  (nV:Qc (ex++Qs σ T.hb) n 67=.cells (S.tb.enc++S.Bc k (σ 0))) (pV:Qc (ex++Qs σ T.hb) n 68=.aC (fS S.fl) false) (yC:Qc (ex++Qs σ T.hb) n k=.cells (Qo S.keys)) (ht:Qu (nr σ k) 70 t t'):To p ⟨t,ex++Qs σ T.hb,n⟩ ⟨t',Qk S T,70⟩:=by
 have yD:nr σ k 67=67:=rfl
 have uS:nr σ k 68=68:=rfl
 have rE:nr σ k 69=k:=rfl
 refine To.NL (nr σ k) hT (fun b hb=>?_) (fun b b' hb bH e=>?_) (fun b hb=>?_) ht
 ·rcases hp b hb with rfl|rfl<;>exact ⟨rfl,by decide⟩
 ·rcases (by omega:b < 67∨b=67∨b=68∨b=69) with h|rfl|rfl|rfl<;>rcases (by omega:b' < 67∨b'=67∨b'=68∨b'=69) with h'|rfl|rfl|rfl
  ·rw[Kt h,Kt h']at e;exact bN _ _ h h' e
  ·rw[Kt h]at e;exact absurd e (aG _ h).1
  ·rw[Kt h]at e;exact absurd e (aG _ h).2.1
  ·rw[Kt h]at e;exact absurd e (aG _ h).2.2
  ·rw[Kt h']at e;exact absurd e.symm (aG _ h').1
  ·rfl
  ·cases e
  ·exact absurd e.symm hk.1
  ·rw[Kt h']at e;exact absurd e.symm (aG _ h').2.1
  ·cases e
  ·rfl
  ·exact absurd e.symm hk.2
  ·rw[Kt h']at e;exact absurd e.symm (aG _ h').2.2
  ·exact absurd e hk.1
  ·exact absurd e hk.2
  ·rfl
 ·rcases (by omega:b < 67∨b=67∨b=68∨b=69) with h|rfl|rfl|rfl
  ·rw[Kt h,U4 hT bN hex h]
   have e:Qc (Qk S T) 70 b=Qc T.hb 67 b:=by
    unfold Qk
    rw[Qd,if_neg ae,Qd,if_neg ae,Qd,if_neg ae]
    exact ((WT.gT hT).live h 70).1
   rw[e]
   exact Jm (n:=67) (fun b hb=>(Kt hb).symm) (Nv hT h).2
  ·rw[yD,nV,Kj]
   show _=Bk.cells (ay (nr σ k) S.cells)
   rw[NS.jZ,uS,rE,Kt (by decide:0 < 67)]
   rfl
  ·rw[uS,pV,uQ,Vt]
  ·rw[rE,yC,uR,Vu]
theorem NS.NO {S:NS} (h:S.tb.wf) (v:Int):S.cells.set 32 (.int .i64 v)=({ S with b7:=v }:NS).cells:=NS.dw h 2 _
set_option maxHeartbeats 4000000 in
theorem Vv (gl:Nat→AV) (S:NS) (T:WT) (D:List Tm) (hS:NB S) (wy:S.b7≤1000000) (hW:WI T S.now D) (hD:D.Perm S.a8) (hl:S.fl.length < 48) (m:Mp) (r rp st:Int):∃ T' D',WI T' S.now D'∧D'.Perm (S.begin ⟨m,r,rp,st,0,0⟩).a8 ∧
  GD Tryz.prog gl 91 [.ptr 67 0,.agg (Fl.enc ⟨m,r,rp,st,0,0⟩)] (Qk S T) 70 [67] (.aU []) (Qk (S.begin ⟨m,r,rp,st,0,0⟩) T'):=by
 have hT:=hW.wf
 obtain ⟨ha,j0⟩:=Xkb hS hl hD ⟨m,r,rp,st,0,0⟩
 obtain ⟨T',lh,gU⟩:=hW.rq gl (S.b7 + 1) (S.now + Kg m.af st)
 dsimp only at ha j0
 rw[ha]at lh gU
 refine ⟨T',_,lh,j0,?_⟩
 dsimp only at gU
 have eX:=lh.wf
 clear lh j0 ha
 refine Xlv.gq (of_decide_eq_true rfl) (Zu hT) au fun c aY hg=>?_
 subst hg
 conv in aQ _ _=>cbv
 have aM:=fun n b hb=>Yl (S:=S) hT n b hb
 have bE:=Kj S T
 have oV:=uQ S T
 have sS:=uR S T
 have aW:=NS.aP hS.wf
 have Hv:=NS.Hv hS.wf
 have NO:=NS.NO hS.wf (S.b7 + 1)
 have fZ:=NS.aP (S:={ S with b7:=S.b7 + 1 }) hS.wf
 have d30:=NS.eJ (S:={ S with b7:=S.b7 + 1 }) hS.wf
 have d31:=NS.iH (S:={ S with b7:=S.b7 + 1 }) hS.wf
 have d32:=NS.Hv (S:={ S with b7:=S.b7 + 1 }) hS.wf
 have d33:=NS.jc (S:={ S with b7:=S.b7 + 1 }) hS.wf
 dsimp only at d31 d32
 have s31:∀ v,({ S with b7:=S.b7 + 1 }:NS).cells.set 31 v=S.tb.enc++({ S with b7:=S.b7 + 1 }:NS).tl.set 1 v:=fun v=>NS.dw (S:={ S with b7:=S.b7 + 1 }) hS.wf 1 v
 generalize ({ S with b7:=S.b7 + 1 }:NS).cells=C1 at *
 have eY:=hW.gV c.gl
 have rF:=U9 c.gl m.af st
 have Vw:=Hu m.af st
 have hn:=hS.now
 have p5a:=hS.lH
 obtain ⟨mp,ms,mi,ma,mt⟩:=m
 unfold Fl.enc Wo
 dsimp only at rF Vw gU ⊢
 obtain ⟨L,hL⟩:∃ L,L=Kg mp st:=⟨_,rfl⟩
 rw[← hL]at rF Vw gU
 refine Qh (An @aM (An @bE (An @aW (An @Hv @NO)))) ?_
 refine HA (ex:=[(67,_),(70,_),(67,_),(68,_),(69,_)]) eY hT aI au (by exact Qq (An @fZ @d33)) (by simp[Qf]) ?_
 refine Qe ?_
 have oW:=fun n b hb=>WT.oO hT n (b:=b) hb
 have dX:=wx S.fl
 have dO:=Um (S.b7 + 1)
 have im:=Xro (l:=S.fl) (x:=S.b7 + 1) (fun q hq e=>by have:=(hS.ids q hq).2;omega) ⟨⟨mp,ms,mi,ma,mt⟩,r,rp,st,0,S.now + L⟩
 unfold Fl.enc Wo at im
 dsimp only at im
 have ib:=Bb S
 ((first|apply Ym|apply Ya|apply Xn|apply Xj)<;>(first|exact rF|(refine XG ?_;first|exact rfl|exact True.intro|((try (repeat' with_reducible refine And.intro ?_ ?_));(try any_goals (first|refine zm ?_|exact CL|fail))))))
 exact Qq (An @d33 (An @d32 (An @d30 @fZ)))
 ((first|refine CJ Ku ?_|refine CK Ku ?_);(have aJ:=@dX;have bm:=@dO;have bL:=@im;have cf:=@d33;have cF:=@d32;have dp:=@d30;have fc:=@fZ;refine XG ?_;clear aJ bm bL cf cF dp fc;((try (repeat' with_reducible refine And.intro ?_ ?_));(try any_goals (first|refine zm ?_|exact CL|fail)))))
 refine Qh (An @d31 (An @d32 @fZ)) ?_
 have f33:(C1.set 31 (AV.sl 1 139 0 (S.fl.length + 1) (S.fl.length + 1))).getD 33 AV.any=.ptr 0 0:=by rw[w7 (by rw[fZ];decide),if_neg aI];exact d33
 have f32:(C1.set 31 (AV.sl 1 139 0 (S.fl.length + 1) (S.fl.length + 1))).getD 32 AV.any=.int .i64 (S.b7 + 1):=by rw[w7 (by rw[fZ];decide),if_neg aI];exact d32
 refine Zj (An @oW @ib) ?_
 refine Zj (An @oW (An @ib (An @fZ (An @f33 @f32)))) ?_
 have hC2:=s31 (.sl 1 139 0 (S.fl.length + 1) (S.fl.length + 1))
 refine Ht (v:=false) (ex:=[(67,_),(139,_),(69,_),(138,_),(68,_),(70,_),(67,_),(70,_),(67,_),(68,_),(69,_)]) gU (WT.gT hT) (WT.gT eX) (by simp[Qf]) aI aI au rfl ?_ ?_
 ·exact Qq (An @Xz (An @f33 @f32))
 rw[Nx (by simp[Qf])]
 refine Qe ?_
 refine ⟨(),To.yB (p:=[67]) (n:=207) (σ:=gM 140) (ex:=[(67,_),(139,_),(69,_),(138,_),(68,_),(70,_),(67,_),(70,_),(67,_),(68,_),(69,_)]) (k:=139) eX au (fun b b' h h' e=>Nw aI h h' e) ?_ aI ?_ ?_ ?_ ?_ (by simp[Qu,Qf,ah,look,aD,ay])⟩
 ·intro q hq b hb e
  have h1:gM 140 b < 2∨142≤gM 140 b:=by unfold gM;split<;>omega
  simp at hq
  rcases hq with rfl|rfl|rfl|rfl|rfl|rfl|rfl|rfl|rfl|rfl|rfl<;>dsimp only at e<;>omega
 ·intro b hb
  have h1:gM 140 b < 2∨142≤gM 140 b:=by unfold gM;split<;>omega
  omega
 ·show Bk.cells _=_
  rw[hC2]
  simp[NS.begin,NS.Bc,NS.tl,Yed]
 ·show Bk.aC _ _=_
  simp only[NS.begin,← hL]
 ·show Bk.cells _=_
  simp[NS.begin,NS.keys]
theorem Ef {l:List (Int × Fl)} (hd:l.Pairwise fun p q=>p.1≠q.1) {q r:Int × Fl} (hq:q ∈ l) (hr:r ∈ l) (e:q.1=r.1):q=r:=by
 have hp:=List.pairwise_iff_getElem.1 hd
 obtain ⟨i,hi,rfl⟩:=List.getElem_of_mem hq
 obtain ⟨j,hj,rfl⟩:=List.getElem_of_mem hr
 rcases Nat.lt_trichotomy i j with h1|h1|h1
 ·exact (hp i j hi hj h1 e).elim
 ·subst h1;rfl
 ·exact (hp j i hj hi h1 e.symm).elim
theorem Vx {S:NS} (hd:S.fl.Pairwise fun p q=>p.1≠q.1) {q:Int × Fl} (hq:q ∈ S.fl) (p:Pk) (cn:Bool):(S.goes q.1 p cn).fl=S.fl.map fun r=>if r.1=q.1 then (r.1,q.2.next p cn S.now) else r:=by
 unfold NS.goes
 refine List.map_congr_left fun r hr=>?_
 split
 ·rename_i e
  rw[Ef hd hr hq e]
 ·rfl
theorem Vy {S:NS} (hd:S.fl.Pairwise fun p q=>p.1≠q.1) {q:Int × Fl} (hq:q ∈ S.fl) (p:Pk) (cn:Bool):∃ A B:List Tm,S.a8=A++⟨q.1,q.2.due.toNat⟩::B∧(S.goes q.1 p cn).a8=A++⟨q.1,(q.2.next p cn S.now).due.toNat⟩::B∧∀ t ∈ A++B,t.id≠q.1:=by
 obtain ⟨i,hi,rfl⟩:=List.getElem_of_mem hq
 have hs:S.fl=S.fl.take i++S.fl[i]::S.fl.drop (i + 1):=by rw[← List.drop_eq_getElem_cons hi,List.take_append_drop]
 have iX:=List.pairwise_iff_getElem.1 hd
 have hA:∀ r ∈ S.fl.take i,r.1≠S.fl[i].1:=fun r hr=>by
  obtain ⟨j,hj,rfl⟩:=List.getElem_of_mem hr
  rw[List.length_take]at hj
  rw[List.getElem_take]
  exact iX j i ae hi ae
 have hB:∀ r ∈ S.fl.drop (i + 1),r.1≠S.fl[i].1:=fun r hr=>by
  obtain ⟨j,hj,rfl⟩:=List.getElem_of_mem hr
  rw[List.length_drop]at hj
  rw[List.getElem_drop]
  exact (iX i (i + 1 + j) hi ae ae).symm
 have hid:∀ l:List (Int × Fl),(∀ r ∈ l,r.1≠S.fl[i].1)→(l.map fun r=>if r.1=S.fl[i].1 then (r.1,S.fl[i].2.next p cn S.now) else r)=l:=fun l hl=>(List.map_congr_left fun r hr=>by rw[if_neg (hl r hr)];rfl).trans (List.map_id l)
 refine ⟨(S.fl.take i).map fun q=>⟨q.1,q.2.due.toNat⟩,(S.fl.drop (i + 1)).map fun q=>⟨q.1,q.2.due.toNat⟩,?_,?_,?_⟩
 ·unfold NS.a8
  conv=>lhs;rw[hs]
  rw[List.map_append,List.map_cons]
 ·unfold NS.a8
  rw[Vx hd (List.getElem_mem hi)]
  have:(S.fl.map fun r=>if r.1=S.fl[i].1 then (r.1,S.fl[i].2.next p cn S.now) else r)=S.fl.take i++(S.fl[i].1,S.fl[i].2.next p cn S.now)::S.fl.drop (i + 1):=by
   generalize hx:S.fl[i]=x at *
   conv=>lhs;rw[hs]
   rw[List.map_append,List.map_cons,hid _ hA,hid _ hB,if_pos rfl]
  rw[this,List.map_append,List.map_cons]
 ·intro t ht
  rcases List.mem_append.1 ht with ht|ht
  ·obtain ⟨r,hr,rfl⟩:=List.mem_map.1 ht
   exact hA r hr
  ·obtain ⟨r,hr,rfl⟩:=List.mem_map.1 ht
   exact hB r hr
theorem Xvi {S:NS} (h:NJ S) {D:List Tm} (hD:D.Perm S.a8) {q:Int × Fl} (hq:q ∈ S.fl) (p:Pk) (cn:Bool) (hd:(S.now:Int) + 4≤(q.2.next p cn S.now).due∧(q.2.next p cn S.now).due≤S.now + 60) :
  ∃ D',yx S.now D q.1 (q.2.next p cn S.now).due=(0,D')∧D'.Perm (S.goes q.1 p cn).a8:=by
 obtain ⟨A,B,e1,e2,e3⟩:=Vy h.dJ hq p cn
 have hn:=h.now
 have bJ:(⟨q.1,q.2.due.toNat⟩:Tm) ∈ D:=hD.mem_iff.2 (by rw[e1];simp)
 have NP:jV D q.1=true:=List.any_eq_true.2 ⟨_,bJ,by simp⟩
 refine ⟨Wz D q.1 (q.2.next p cn S.now).due.toNat,?_,?_⟩
 ·unfold yx
  rw[if_neg ae,if_neg (by rw[NP];simp),show max (q.2.next p cn S.now).due.toNat S.now=(q.2.next p cn S.now).due.toNat by omega]
 ·unfold Wz
  rw[e2]
  refine (List.perm_append_singleton _ _).trans ?_
  refine List.Perm.trans ?_ List.perm_middle.symm
  refine List.Perm.cons _ ?_
  have h1:(Xt q.1 D).Perm (Xt q.1 S.a8):=hD.filter _
  refine h1.trans ?_
  rw[e1]
  unfold Xt
  rw[List.filter_append,List.filter_cons,if_neg au,← List.filter_append,List.filter_eq_self.2 fun t ht=>by simpa using e3 t ht]
theorem Xl9 {S:NS} (h:NJ S) {q:Int × Fl} (hq:q ∈ S.fl) (p:Pk) (cn:Bool) (hd:(q.2.next p cn S.now).due=q.2.due):(S.goes q.1 p cn).a8=S.a8:=by
 obtain ⟨A,B,e1,e2,_⟩:=Vy h.dJ hq p cn
 rw[e1,e2,hd]
theorem To.eP {p:List Nat} {t t':List (Nat × AV)} {ex:List (Nat × Bk)} {S:NS} {T:WT} {n k:Nat} (hT:T.wf) (hp:∀ b ∈ p,b=67∨b=68) (hex:∀ q ∈ ex,67≤q.1) (hk:k≠67∧k≠68) (hk2:67≤k)
  (nV:Qc (ex++T.hb) n 67=.cells (S.tb.enc++S.Bc k 0)) (pV:Qc (ex++T.hb) n 68=.aC (fS S.fl) false) (yC:Qc (ex++T.hb) n k=.cells (Qo S.keys)) (ht:Qu (nr id k) 70 t t'):To p ⟨t,ex++T.hb,n⟩ ⟨t',Qk S T,70⟩:=by
 have:=To.yB (p:=p) (t:=t) (t':=t') (ex:=ex) (S:=S) (σ:=id) (n:=n) (k:=k) hT hp (fun b b' _ _ e=>e) (fun q hq b hb e=>by have:=hex q hq;have e:b=q.1:=e;omega) hk (fun b hb=>by show b≠67∧b≠68∧b≠k;omega)
 rw[Jw]at this
 exact this nV pV yC ht
theorem Xr7 {S:NS} (hd:S.fl.Pairwise fun p q=>p.1≠q.1) {q:Int × Fl} (hq:q ∈ S.fl) (p:Pk) (cn:Bool):pH (fS S.fl) (.int .i64 q.1) (.agg (q.2.next p cn S.now).enc)=fS (S.goes q.1 p cn).fl:=by
 rw[Vx hd hq]
 obtain ⟨i,hi,rfl⟩:=List.getElem_of_mem hq
 exact Xxs hd hi _
theorem HC {l:List (Int × Fl)} (hd:l.Pairwise fun p q=>p.1≠q.1) {q:Int × Fl} (hq:q ∈ l) (z:AV):pG (fS l) (.int .i64 q.1) z=.agg q.2.enc:=by
 obtain ⟨i,hi,rfl⟩:=List.getElem_of_mem hq
 exact Hz hd hi z
theorem Xjj (S:NS) (k:Int) (p:Pk) (cn:Bool):(S.goes k p cn).keys=S.keys:=by
 unfold NS.keys NS.goes
 rw[List.map_map]
 exact List.map_congr_left fun q _=>by dsimp only[Function.comp];split<;>rfl
theorem Xuh (S:NS) (k:Int) (p:Pk) (cn:Bool):(S.goes k p cn).fl.length=S.fl.length:=by unfold NS.goes;exact List.length_map ..
set_option maxHeartbeats 4000000 in
theorem Vz (gl:Nat→AV) (S:NS) (T:WT) (D:List Tm) (hS:NI S) (hW:WI T S.now D) (hD:D.Perm S.a8) (q:Int × Fl) (hq:q ∈ S.fl) (p:Pk) (cn:Bool):∃ T' D',WI T' S.now D'∧D'.Perm (S.goes q.1 p cn).a8 ∧
  GD Tryz.prog gl 93 [.ptr 67 0,.int .i64 q.1,.agg p.enc,.bool cn] (Qk S T) 70 [67] (.aU []) (Qk (S.goes q.1 p cn) T'):=by
 have hT:=hW.wf
 have VA:=hS.now
 have iw:=Vc q.2.map.af q.2.st q.2.side q.2.due p.flags cn (now:=S.now) ae ae
 have ed:=HC hS.dJ hq (.agg Fl.zero)
 have im:=Xr7 hS.dJ hq p cn
 have jt:=Xjj S q.1 p cn
 have ka:=Xuh S q.1 p cn
 have HD:(S.goes q.1 p cn).tb=S.tb:=rfl
 have dO:=Um q.1
 have dX:=wx S.fl
 have ib:=Bb S
 by_cases dI:(q.2.next p cn S.now).due=q.2.due
 ·refine ⟨T,D,hW,by rw[Xl9 hS.toNJ hq p cn dI];exact hD,?_⟩
  refine Vh.gq (of_decide_eq_true rfl) (Zu hT) au fun c aY hg=>?_
  subst hg
  conv in aQ _ _=>cbv
  have aM:=fun n b hb=>Yl (S:=S) hT n b hb
  have bE:=Kj S T
  have oV:=uQ S T
  have sS:=uR S T
  have aW:=NS.aP hS.wf
  have eJ:=NS.eJ hS.wf
  have jc:=NS.jc hS.wf
  have oW:=fun n b hb=>WT.oO hT n (b:=b) hb
  have eY:=hW.gV c.gl
  obtain ⟨k,f⟩:=q
  obtain ⟨⟨mp,ms,mi,ma,mt⟩,r,rp,st,sd,du⟩:=f
  obtain ⟨p1,p2,p3,p4,p5,p6,p7,p8,p9,fT,fU,pb⟩:=p
  have hN:=Va c.gl mp ms mi ma mt r rp st sd du p1 p2 p3 p4 p5 p6 p7 p8 p9 fT fU pb cn S.now
  unfold Fl.next at im dI
  unfold Fl.enc Wo at ed im
  unfold Wo at hN
  unfold Pk.enc
  dsimp only at ed im hN dO dI jt ka ⊢
  generalize oT mp st sd du p8 cn S.now=x at *
  obtain ⟨x1,x2,x3⟩:=x
  dsimp only at im hN dI
  subst dI
  refine Qh (An @aM (An @bE (An @aW @eJ))) ?_
  ((first|refine nt Ku ?_|refine Ww Ku ?_);(have aJ:=@oV;have bm:=@dX;have bL:=@dO;have cf:=@ed;have cF:=@aM;have dp:=@bE;have fc:=@aW;have jn:=@jc;refine XG ?_;clear aJ bm bL cf cF dp fc jn;((try (repeat' with_reducible refine And.intro ?_ ?_));(try any_goals (first|refine zm ?_|exact CL|fail)))))
  refine HA (ex:=[(70,_),(67,_),(68,_),(69,_)]) eY hT aI au (by exact Qq (An @aW @jc)) (by simp[Qf]) ?_
  refine Qe ?_
  refine Qv hN @oW ?_
  refine Qh (An @aW (An @eJ @oW)) ?_
  ((first|refine nt Ku ?_|refine Ww Ku ?_);(have aJ:=@dX;have bm:=@dO;have bL:=@ed;have cf:=@aW;have cF:=@eJ;have dp:=@oW;refine XG ?_;clear aJ bm bL cf cF dp;((try (repeat' with_reducible refine And.intro ?_ ?_));(try any_goals (first|refine zm ?_|exact CL|fail)))))
  (refine Qa (fun h1=>?_) (fun h1=>?_)<;>try exact h1.elim)
  refine Qh (An @aW @eJ) ?_
  ((first|refine CJ Ku ?_|refine CK Ku ?_);(have aJ:=@dX;have bm:=@dO;have bL:=@im;have cf:=@aW;have cF:=@eJ;refine XG ?_;clear aJ bm bL cf cF;((try (repeat' with_reducible refine And.intro ?_ ?_));(try any_goals (first|refine zm ?_|exact CL|fail)))))
  refine ⟨(),To.eP (ex:=[(68,_),(138,_),(138,_),(70,_),(67,_),(68,_),(69,_)]) (k:=69) hT au au aI aI ?_ rfl ?_ (by simp[Qu,Qf,ah,look,aD,ay])⟩
  ·show Bk.cells _=_
   unfold NS.cells NS.tl NS.Bc
   rw[ka]
   rfl
  ·show Bk.cells _=_
   rw[jt]
 obtain ⟨fP,dE⟩:(S.now:Int) + 4≤(q.2.next p cn S.now).due∧(q.2.next p cn S.now).due≤S.now + 60:=by
  rcases iw with h|⟨d,h1,h2,h3⟩
  ·exact absurd h dI
  ·have:(q.2.next p cn S.now).due=S.now + d:=h3
   omega
 obtain ⟨D',wA,j0⟩:=Xvi hS.toNJ hD hq p cn ⟨fP,dE⟩
 obtain ⟨T',lh,gU⟩:=hW.rq gl q.1 (q.2.next p cn S.now).due
 rw[wA]at lh gU
 refine ⟨T',D',lh,j0,?_⟩
 have eX:=lh.wf
 clear j0 wA lh
 refine Vh.gq (of_decide_eq_true rfl) (Zu hT) au fun c aY hg=>?_
 subst hg
 conv in aQ _ _=>cbv
 have aM:=fun n b hb=>Yl (S:=S) hT n b hb
 have bE:=Kj S T
 have oV:=uQ S T
 have sS:=uR S T
 have aW:=NS.aP hS.wf
 have eJ:=NS.eJ hS.wf
 have jc:=NS.jc hS.wf
 have oW:=fun n b hb=>WT.oO hT n (b:=b) hb
 have eY:=hW.gV c.gl
 obtain ⟨k,f⟩:=q
 obtain ⟨⟨mp,ms,mi,ma,mt⟩,r,rp,st,sd,du⟩:=f
 obtain ⟨p1,p2,p3,p4,p5,p6,p7,p8,p9,fT,fU,pb⟩:=p
 have hN:=Va c.gl mp ms mi ma mt r rp st sd du p1 p2 p3 p4 p5 p6 p7 p8 p9 fT fU pb cn S.now
 unfold Fl.next at im dI gU
 unfold Fl.enc Wo at ed im
 unfold Wo at hN
 unfold Pk.enc
 clear fP dE iw
 dsimp only at ed im hN dO dI jt ka gU ⊢
 generalize oT mp st sd du p8 cn S.now=x at *
 obtain ⟨x1,x2,x3⟩:=x
 dsimp only at im hN dI
 refine Qh (An @aM (An @bE (An @aW @eJ))) ?_
 ((first|refine nt Ku ?_|refine Ww Ku ?_);(have aJ:=@oV;have bm:=@dX;have bL:=@dO;have cf:=@ed;have cF:=@aM;have dp:=@bE;have fc:=@aW;have jn:=@jc;refine XG ?_;clear aJ bm bL cf cF dp fc jn;((try (repeat' with_reducible refine And.intro ?_ ?_));(try any_goals (first|refine zm ?_|exact CL|fail)))))
 refine HA (ex:=[(70,_),(67,_),(68,_),(69,_)]) eY hT aI au (by exact Qq (An @aW @jc)) (by simp[Qf]) ?_
 refine Qe ?_
 refine Qv hN @oW ?_
 refine Qh (An @aW (An @eJ @oW)) ?_
 ((first|refine nt Ku ?_|refine Ww Ku ?_);(have aJ:=@dX;have bm:=@dO;have bL:=@ed;have cf:=@aW;have cF:=@eJ;have dp:=@oW;refine XG ?_;clear aJ bm bL cf cF dp;((try (repeat' with_reducible refine And.intro ?_ ?_));(try any_goals (first|refine zm ?_|exact CL|fail)))))
 (refine Qa (fun h1=>?_) (fun h1=>?_)<;>try exact h1.elim)
 rotate_left
 ·exact absurd h1 (by simpa using dI)
 refine Qh (An @aW @jc) ?_
 refine Ht (v:=false) (ex:=[(138,_),(138,_),(70,_),(67,_),(68,_),(69,_)]) gU (WT.gT hT) (WT.gT eX) (by simp[Qf]) aI aI au rfl ?_ ?_
 ·exact Qq (An @Xz (An @aW @jc))
 rw[Nx (by simp[Qf])]
 refine Qh (An @aW @eJ) ?_
 ((first|refine CJ Ku ?_|refine CK Ku ?_);(have aJ:=@dX;have bm:=@dO;have bL:=@im;have cf:=@aW;have cF:=@eJ;refine XG ?_;clear aJ bm bL cf cF;((try (repeat' with_reducible refine And.intro ?_ ?_));(try any_goals (first|refine zm ?_|exact CL|fail)))))
 refine ⟨(),To.yB (p:=[67]) (n:=206) (σ:=gM 139) (ex:=[(68,_),(138,_),(138,_),(70,_),(67,_),(68,_),(69,_)]) (k:=69) eX au (fun b b' h h' e=>Nw aI h h' e) ?_ aI ?_ ?_ rfl ?_ (by simp[Qu,Qf,ah,look,aD,ay])⟩
 ·intro q hq b hb e
  have h1:gM 139 b < 2∨141≤gM 139 b:=by unfold gM;split<;>omega
  simp at hq
  rcases hq with rfl|rfl|rfl|rfl|rfl|rfl|rfl<;>dsimp only at e<;>omega
 ·intro b hb
  have h1:gM 139 b < 2∨141≤gM 139 b:=by unfold gM;split<;>omega
  omega
 ·show Bk.cells _=_
  unfold NS.cells NS.tl NS.Bc
  rw[ka]
  rfl
 ·show Bk.cells _=_
  rw[jt]
section
variable {P:Program} {c:Cx}
theorem Xwj {anc:List Nat} {fs:List bp} {r0:List bG} {K:St→Prop} {s:St} {d:Nat} {t:TypeId} {ok:Bool} {xs:List TV} {gd:Option (Nat × Bool)} {wide:Bool} {ks:List SK} {z:AV} (hT:dG P t wide ks z) (hb:gB s.fs gd=some true) (aX:fx s.fs gd)
  (h:Qt none (aF c.gl s.fs xs)∧pI s.fs wide ks ((aF c.gl s.fs xs).map Qj)∧XD P c anc r0 (⟨jj gd++Xf xs,[fy ((aF c.gl s.fs xs).map Qj)],[d],[]⟩::fs) K (s.put d (Ak s.fs z ok ((aF c.gl s.fs xs).map Qj)))) :
  Zi P c anc (.pd (some d) (.zA t ok) xs gd) r0 fs K s:=⟨_,_,Cp hb aX (KX hT h.1 h.2.1),h.2.2⟩
end
def uT (b:Int→Bool):List Int→Nat→Int
 | [],_=>-1
 | x::l,k=>if b x=true then k else uT b l (k + 1)
theorem VB {b:Int→Bool}:∀ (l:List Int) (k:Nat),decide (0≤uT b l k)=l.any b
 | [],k=>by simp[uT]
 | x::l,k=>by
  unfold uT
  rw[List.any_cons]
  split
  ·rename_i h;rw[h];simp
  ·rename_i h;rw[VB l (k + 1)];simp[h]
section
variable {h:List (Nat × Bk)} {m kb:Nat} {l:List Int} {f:FuncId} {caps:List AV} {b:Int→Bool}
set_option maxHeartbeats 2000000 in
theorem Ybh (gl:Nat→AV) (H:HL h m) (hl:l.length≤1000000) (HE:kb < m) (hk:∀ n,Qc h n kb=.cells (Qo l)) (gH:ah m caps)
  (hf:∀ x ∈ l,GD Tryz.prog gl f (.int .i64 x::caps) h m (List.range m) (.bool (b x)) h) :
  GD Tryz.prog gl 136 [.sl 1 kb 0 l.length l.length,.cl f caps] h m (List.range m) (.int .i64 (uT b l 0)) h:=by
 refine Hx.gq (of_decide_eq_true rfl) H.lives (fun b hb=>List.mem_range.1 hb) fun c aY hg=>?_
 subst hg
 conv in aQ _ _=>cbv
 have dq:=Xv l
 refine Qe ?_
 refine Yf (fun k:Nat=>k≤l.length∧uT b (l.drop k) k=uT b l 0) (fun k=>⟨[(0,.sl 1 kb 0 l.length l.length),(1,.cl f caps),(6,.sl 1 kb 0 l.length l.length),(7,.int .i64 l.length),(8,.int .i64 k)],h,m⟩) (fun k=>l.length - k) Hx.mixed (List.range m) aY
  ⟨0,⟨by omega,rfl⟩,To.dk (by exact Qr) fun b=>rfl⟩ fun k hk2=>?_
 obtain ⟨ib,cK⟩:=hk2
 have gO:∀ b ∈ List.range m,b < m:=fun b hb=>List.mem_range.1 hb
 refine Qe ?_
 (refine Qa (fun h1=>?_) (fun h1=>?_)<;>try exact h1.elim)
 ·have bw:k < l.length:=by omega
  have jt:=A6 l k bw
  have iD:l.drop k=l[k]::l.drop (k + 1):=List.drop_eq_getElem_cons bw
  rw[iD]at cK
  rw[uT]at cK
  have hc:=hf l[k] (List.getElem_mem bw)
  generalize l[k]=t at *
  refine Qh (An @dq (An @jt @hk)) ?_
  refine ru (v:=true) (ex:=[]) hc H H (by simp[Qf]) (Nat.le_refl m) au rfl ?_ ?_
  ·refine Qe ?_
   exact rfl
  refine Qe ?_
  (refine Qa (fun h2=>?_) (fun h2=>?_)<;>try exact h2.elim)
  ·rw[if_pos h2]at cK
   refine Qe ?_
   refine ⟨(),?_⟩
   rw[← cK]
   exact To.drop (ex:=[]) H au gO (by simp[Qu,Qf,look,aD])
  ·rw[if_neg (by simpa using h2)]at cK
   refine Qe ?_
   refine ⟨k + 1,⟨by omega,cK⟩,To.drop (ex:=[]) H au gO ?_,by omega⟩
   simp[Qu,Qf,ah,look,aD,gH,HE]
   exact (Jf caps).symm
 ·have:k=l.length:=by omega
  subst this
  rw[List.drop_length]at cK
  have cK:(-1:Int)=uT b l 0:=cK
  refine Qe ?_
  refine ⟨(),?_⟩
  rw[← cK]
  exact To.drop (ex:=[]) H au gO (by simp[Qu,Qf,look,aD])
set_option maxHeartbeats 2000000 in
theorem VC (gl:Nat→AV) (H:HL h m) (hl:l.length≤1000000) (HE:kb < m) (hk:∀ n,Qc h n kb=.cells (Qo l)) (gH:ah m caps)
  (hf:∀ x ∈ l,GD Tryz.prog gl f (.int .i64 x::caps) h m (List.range m) (.bool (b x)) h) :
  GD Tryz.prog gl 96 [.sl 1 kb 0 l.length l.length,.cl f caps] h m (List.range m) (.bool (l.any b)) h:=by
 refine Xxh.gq (of_decide_eq_true rfl) H.lives (fun b hb=>List.mem_range.1 hb) fun c aY hg=>?_
 subst hg
 conv in aQ _ _=>cbv
 have hc:=Ybh c.gl H hl HE hk gH hf
 have ha:=VB (b:=b) l 0
 refine Qe ?_
 refine ru (v:=false) (ex:=[]) hc H H (by simp[Qf]) (Nat.le_refl m) au rfl ⟨?_,?_,?_⟩ ?_
 ·exact Qr
 ·exact Qq @Xz
 ·simp[ah,Qf,HE,gH]
 refine Qe ?_
 refine ⟨(),?_⟩
 rw[← ha]
 exact To.drop (ex:=[]) H au (fun b hb=>List.mem_range.1 hb) (by simp[Qu,Qf,look,aD])
end
section
variable {h:List (Nat × Bk)} {mm nb mb pb:Nat} {S:NS} {m:Mp}
set_option maxHeartbeats 2000000 in
theorem Xq6 (gl:Nat→AV) (hS:NB S) (H:HL h mm) (nV:∀ n,Qc h n 67=.cells S.cells) (pV:∀ n,Qc h n 68=.aC (fS S.fl) false) (Bd:∀ n,Qc h n nb=.cells [.ptr 67 0]) (da:∀ n,Qc h n mb=.cells m.enc) {q:Int × Fl} (hq:q ∈ S.fl) :
  GD Tryz.prog gl 101 [.int .i64 q.1,.ptr nb 0,.ptr mb 0] h mm (List.range mm) (.bool (decide (q.2.map=m))) h:=by
 refine Xq2.gq (of_decide_eq_true rfl) H.lives (fun b hb=>List.mem_range.1 hb) fun c aY hg=>?_
 subst hg
 conv in aQ _ _=>cbv
 have ed:=HC hS.dJ hq (.agg Fl.zero)
 have dO:=Um q.1
 have dX:=wx S.fl
 have aW:=NS.aP hS.wf
 have eJ:=NS.eJ hS.wf
 obtain ⟨k,f⟩:=q
 obtain ⟨⟨p0,p1,p2,p3,p4⟩,g0,g1,g2,g3,g4⟩:=f
 obtain ⟨mp,ms,mi,ma,mt⟩:=m
 have heq:=@Dz c false ⟨p0,p1,p2,p3,p4⟩ ⟨mp,ms,mi,ma,mt⟩
 unfold Mp.enc at heq da
 unfold Fl.enc Wo at ed
 dsimp only at ed heq da dO ⊢
 refine Qh (An @Bd (An @nV (An @aW @eJ))) ?_
 ((first|refine nt Ku ?_|refine Ww Ku ?_);(have aJ:=@pV;have bm:=@dX;have bL:=@dO;have cf:=@ed;have cF:=@da;refine XG ?_;clear aJ bm bL cf cF;((try (repeat' with_reducible refine And.intro ?_ ?_));(try any_goals (first|refine zm ?_|exact CL|fail)))))
 ((first|apply Ym|apply Ya|apply Xn|apply Xj)<;>(first|exact heq|(refine XG ?_;first|exact rfl|exact True.intro|((try (repeat' with_reducible refine And.intro ?_ ?_));(try any_goals (first|refine zm ?_|exact CL|fail))))))
 refine Qe ?_
 ·simp[Us,Ub,cN];decide
 exact ⟨(),To.drop (ex:=[]) H au (fun b hb=>List.mem_range.1 hb) (by simp[Qu,Qf,look,aD])⟩
set_option maxHeartbeats 2000000 in
theorem Yay (gl:Nat→AV) (hS:NJ S) (H:HL h mm) (nV:∀ n,Qc h n 67=.cells S.cells) (pV:∀ n,Qc h n 68=.aC (fS S.fl) false) (Bd:∀ n,Qc h n nb=.cells [.ptr 67 0]) (da:∀ n,Qc h n mb=.cells m.enc) {p:Pk} (Be:∀ n,Qc h n pb=.cells p.enc) {q:Int × Fl} (hq:q ∈ S.fl) :
  GD Tryz.prog gl 97 [.int .i64 q.1,.ptr nb 0,.ptr mb 0,.ptr pb 0] h mm (List.range mm) (.bool (decide (q.2.map=m) && q.2.rem == p.aB)) h:=by
 refine Yb2.gq (of_decide_eq_true rfl) H.lives (fun b hb=>List.mem_range.1 hb) fun c aY hg=>?_
 subst hg
 conv in aQ _ _=>cbv
 have ed:=HC hS.dJ hq (.agg Fl.zero)
 have dO:=Um q.1
 have dX:=wx S.fl
 have aW:=NS.aP hS.wf
 have eJ:=NS.eJ hS.wf
 obtain ⟨k,f⟩:=q
 obtain ⟨⟨p0,p1,p2,p3,p4⟩,g0,g1,g2,g3,g4⟩:=f
 obtain ⟨mp,ms,mi,ma,mt⟩:=m
 obtain ⟨x1,x2,x3,x4,x5,x6,x7,x8,x9,x10,x11,xb⟩:=p
 have heq:=@Dz c false ⟨p0,p1,p2,p3,p4⟩ ⟨mp,ms,mi,ma,mt⟩
 unfold Mp.enc at heq da
 unfold Pk.enc at Be
 unfold Fl.enc Wo at ed
 dsimp only at ed heq da Be dO ⊢
 refine Qh (An @Bd (An @nV (An @aW @eJ))) ?_
 ((first|refine nt Ku ?_|refine Ww Ku ?_);(have aJ:=@pV;have bm:=@dX;have bL:=@dO;have cf:=@ed;have cF:=@da;refine XG ?_;clear aJ bm bL cf cF;((try (repeat' with_reducible refine And.intro ?_ ?_));(try any_goals (first|refine zm ?_|exact CL|fail)))))
 by_cases hm:(⟨p0,p1,p2,p3,p4⟩:Mp)=⟨mp,ms,mi,ma,mt⟩
 ·rw[decide_eq_true hm]at heq ⊢
  refine Qv heq (An @Bd (An @nV (An @aW (An @eJ @Be)))) ?_
  refine Xwj Ku ?_ ?_ ?_
  ·exact Qr
  ·exact Qr
  (have aJ:=@pV;have bm:=@dX;have bL:=@dO;have cf:=@ed;have cF:=@da;have dp:=@Be;refine XG ?_;clear aJ bm bL cf cF dp;((try (repeat' with_reducible refine And.intro ?_ ?_));(try any_goals (first|refine zm ?_|exact CL|fail))))
  ·simp[Us,Ub,cN];decide
  exact ⟨(),To.drop (ex:=[]) H au (fun b hb=>List.mem_range.1 hb) (by simp[Qu,Qf,look,aD])⟩
 ·rw[decide_eq_false hm]at heq ⊢
  refine Qv heq (An @Bd (An @nV (An @aW (An @eJ @Be)))) ?_
  ((first|apply Yd|apply Xr)<;>(have aJ:=@Bd;have bm:=@nV;have bL:=@aW;have cf:=@eJ;have cF:=@Be;refine XG ?_;clear aJ bm bL cf cF;first|exact rfl|exact True.intro|((try (repeat' with_reducible refine And.intro ?_ ?_));(try any_goals (first|refine zm ?_|exact CL|fail)))))
  ·simp[Us,Ub,cN];decide
  exact ⟨(),To.drop (ex:=[]) H au (fun b hb=>List.mem_range.1 hb) (by simp[Qu,Qf,look,aD])⟩
end
structure NK (S:NS):Prop extends NI S where
 nx:S.b7≤2 * S.aE
 rG:S.told≤64 * S.aE
 act:S.aE≤300
theorem NI.Eg {S:NS} (h:NJ S):∀ q ∈ S.fl,1≤q.1:=fun q hq=>(h.ids q hq).1
theorem NI.setRef {S:NS} (h:NI S) {r:Nat} (hr:r≤4):NI { S with ref:=r } :=
 ⟨⟨h.gt,h.wf,h.ids,h.dJ,h.len,h.kJ,h.has,h.ry,h.now,h.lH,hr⟩,h.due⟩
theorem NI.ko {S:NS} (h:NI S) (r:Nat):NI { S with told:=r } :=
 ⟨⟨h.gt,h.wf,h.ids,h.dJ,h.len,h.kJ,h.has,h.ry,h.now,h.lH,h.ref⟩,h.due⟩
theorem NI.gI {S:NS} (h:NI S) (r:Nat):NI { S with aE:=r } :=
 ⟨⟨h.gt,h.wf,h.ids,h.dJ,h.len,h.kJ,h.has,h.ry,h.now,h.lH,h.ref⟩,h.due⟩
structure j1 (S S':NS) (a b:Nat):Prop where
 nx:S'.b7≤S.b7 + a
 rG:S'.told≤S.told + b
 act:S'.aE=S.aE
 loose:S'.loose=S.loose
theorem j1.refl (S:NS) (a b:Nat):j1 S S a b:=⟨by omega,by omega,rfl,rfl⟩
theorem NI.refuse {S:NS} (h:NI S) (f:List UInt8) (e:Int):NI (S.refuse f e).2∧j1 S (S.refuse f e).2 0 0:=by
 unfold NS.refuse
 split
 ·exact ⟨h,j1.refl ..⟩
 ·exact ⟨h.setRef (by have:=h.ref;omega),⟨by show S.b7≤_;omega,Nat.le_refl _,rfl,rfl⟩⟩
theorem NI.yE {S:NS} (h:NI S) {f:Fl} (aG:f.map ∈ S.tb.maps) (cd:∀ q ∈ S.fl,¬ (q.2.map=f.map∧q.2.rem=f.rem∧q.2.rport=f.rport)) (hl:S.fl.length < 48):NI (S.begin f) :=
 h.begin h.gt h.wf (fun _ hm=>hm) (fun _ hm=>.inl hm) aG cd hl
theorem NI.aR {S:NS} (h:NI S) (f:List UInt8):NI (S.aR f).2∧j1 S (S.aR f).2 1 0:=by
 have hS:NI S∧j1 S S 1 0:=⟨h,j1.refl ..⟩
 unfold NS.aR
 split
 ·exact hS
 dsimp only
 split
 ·exact hS
 split
 ·exact hS
 split
 ·exact hS
 split
 ·exact hS
 rename_i m hm
 have C3:=List.mem_of_find?_eq_some hm
 split
 ·exact ⟨h.goes ..,⟨by show S.b7≤_;omega,Nat.le_refl _,rfl,rfl⟩⟩
 rename_i hk
 split
 ·exact hS
 split
 ·exact hS
 rename_i hlen
 refine ⟨h.yE C3 (Vd (NI.Eg h.toNJ) (Decidable.not_not.1 hk)) ae,⟨?_,Nat.le_refl _,rfl,rfl⟩⟩
 show S.b7 + 1≤_
 omega
theorem NI.dP {S:NS} (h:NI S) (f:List UInt8) (m:Mp) (es:List Ev):NI (S.dP f m es).2∧j1 S (S.dP f m es).2 1 es.length:=by
 have h1:NI (S.log es):=h.ko _
 unfold NS.dP
 dsimp only
 split
 ·obtain ⟨g1,g2⟩:=h1.aR (Yz f 0 (3405803777 + m.a) m.port)
  exact ⟨g1,⟨g2.nx,g2.rG,g2.act,g2.loose⟩⟩
 ·exact ⟨h1,⟨by show S.b7≤_;omega,Nat.le_refl _,rfl,rfl⟩⟩
theorem VD {p:Pk} (hp:p.af=1∨p.af=6∨p.af=17) {s i:Int} (h1:0≤s) (h2:s < 8) (h3:0≤i) (h4:i≤65535):Jk p.af s i=true:=by
 unfold Jk
 simp only[Bool.and_eq_true,Bool.or_eq_true,beq_iff_eq,decide_eq_true_eq]
 omega
theorem VE {S:NS} (hn:S.now≤549755813888) {t:Tb} (h:GT t) {m:Mp} (hm:m ∈ t.maps) (b:Bool):Zk (S.ev m b).t (S.ev m b).s (S.ev m b).a (S.ev m b).b=true:=by
 have aX:=h.maps m hm
 obtain ⟨_,⟨h3,h4⟩,_⟩:=Kx aX.1.1
 have h5:=aX.1.2.2
 have h6:=vZ m.port
 show Zk S.now m.s m.a (Xb m.port)=true
 unfold Zk
 simp only[Bool.and_eq_true,decide_eq_true_eq]
 omega
theorem NI.yF {S:NS} (h:NI S) {p:Pk} {S0:Nat} {aR:Int} (bw:Jk p.af S0 aR=true) {x:Tb × Mp × Bool × Int} (ho:cj S.tb p.af S0 aR x) (he:x.2.2.2=0)
  (cd:∀ q ∈ S.fl,¬ (q.2.map=x.2.1∧q.2.rem=p.dst∧q.2.rport=p.aj)) (hl:S.fl.length < 48) (st:Int):NI (({ S with tb:=x.1 }:NS).begin ⟨x.2.1,p.dst,p.aj,st,0,0⟩):=by
 have hg:=ho.bQ h.gt h.wf bw
 have hw:=ho.wf h.wf
 have aG:=(ho.has he).1
 refine h.begin hg hw ?_ ?_ aG cd hl
 ·cases ho with
  | no e lj=>exact fun m hm=>hm
  | old m hf=>exact fun m hm=>hm
  | own port=>exact fun m hm=>List.mem_append_left _ hm
  | new b k=>exact fun m hm=>List.mem_append_left _ hm
 ·cases ho with
  | no e lj=>exact fun m hm=>.inl hm
  | old m hf=>exact fun m hm=>.inl hm
  | own port=>exact fun m hm=>(List.mem_append.1 hm).imp id fun h=>List.mem_singleton.1 h
  | new b k=>exact fun m hm=>(List.mem_append.1 hm).imp id fun h=>List.mem_singleton.1 h
theorem VF {f:List UInt8} (h:bZ f=0):((az f).af=1∨(az f).af=6∨(az f).af=17)∧Kk (az f):=by
 have he:Yo (az f)=0:=by
  unfold bZ at h
  dsimp only at h
  (repeat' split at h)<;>first|cases h|exact h
 have:=Wc he
 exact ⟨this.1,this.2.1⟩
def NS.fwd (S:NS) (p:Pk):Option Mp:=S.tb.maps.find? (Zd p.af (p.aB - 167772161) p.ai)
def NS.cQ (S:NS) (p:Pk):Int:=match S.fwd p with
 | some m=>S.findF m p.dst p.aj
 | none=>0
noncomputable def NS.opened (S:NS) (f:List UInt8) (o:Tb × Mp × Bool × Int):Rp × NS :=
 (({ S with tb:=o.1 }:NS).begin ⟨o.2.1,(az f).dst,(az f).aj,pU (az f).af,0,0⟩).dP f o.2.1 (if o.2.2.1 then [({ S with tb:=o.1 }:NS).ev o.2.1 false] else [])
theorem Eh (S:NS) (f:List UInt8) (draw:Int):S.out f draw =
  if bZ f≠0 then (bT (bZ f),S) else
  if (az f).aB - 167772161 < 0∨8≤(az f).aB - 167772161 then (bT 7,S) else
  if (az f).af=1∧(az f).flags≠8 then (bT 4,S) else
  if (az f).av=1 then (bT 12,S) else
  if S.cQ (az f)≠0 then (match S.fwd (az f) with
   | some m=>(S.goes (S.cQ (az f)) (az f) false).dP f m []
   | none=>(bT 0,S))
  else if A8 (az f).af (az f).flags=false then (bT 11,S) else
  if 48≤S.fl.length then S.refuse f 6 else
  if (S.tb.cE (az f).af ((az f).aB - 167772161) (az f).ai draw).2.2.2≠0 then S.refuse f (S.tb.cE (az f).af ((az f).aB - 167772161) (az f).ai draw).2.2.2 else
  S.opened f (S.tb.cE (az f).af ((az f).aB - 167772161) (az f).ai draw):=rfl
theorem NI.opened {S:NS} (h:NI S) {f:List UInt8} (he:bZ f=0) {draw:Int} (hs:¬ ((az f).aB - 167772161 < 0∨8≤(az f).aB - 167772161)) (hk:S.cQ (az f)=0) (hl:S.fl.length < 48) (ho:(S.tb.cE (az f).af ((az f).aB - 167772161) (az f).ai draw).2.2.2=0) :
  ∃ S0:Nat,(az f).aB - 167772161=S0∧S0 < 8∧Jk (az f).af S0 (az f).ai=true∧cj S.tb (az f).af S0 (az f).ai (S.tb.cE (az f).af S0 (az f).ai draw)∧(∀ q ∈ S.fl,¬ (q.2.map=(S.tb.cE (az f).af S0 (az f).ai draw).2.1∧q.2.rem=(az f).dst∧q.2.rport=(az f).aj)) ∧
  ∀ st,NI (({ S with tb:=(S.tb.cE (az f).af S0 (az f).ai draw).1 }:NS).begin ⟨(S.tb.cE (az f).af S0 (az f).ai draw).2.1,(az f).dst,(az f).aj,st,0,0⟩):=by
 obtain ⟨hp,hr⟩:=VF he
 obtain ⟨S0,mU⟩:∃ S0:Nat,(az f).aB - 167772161=S0:=⟨((az f).aB - 167772161).toNat,by omega⟩
 unfold NS.cQ NS.fwd at hk
 rw[mU]at ho hk hs
 have bw:Jk (az f).af S0 (az f).ai=true:=VD hp ae ae hr.2.2.2.2.1.1 hr.2.2.2.2.1.2
 have bl:=Proofs.YtogckmommodmhaaGreatDoor.opened h.gt h.wf bw draw
 have cd:∀ q ∈ S.fl,¬ (q.2.map=(S.tb.cE (az f).af S0 (az f).ai draw).2.1∧q.2.rem=(az f).dst∧q.2.rport=(az f).aj):=by
  intro q hq ⟨e1,e2,e3⟩
  have aG:=h.kJ q hq
  have Bf:=h.gt.fwd aG
  obtain ⟨_,k1,k2,k3,_⟩:=bl.has ho
  rw[e1]at aG Bf
  rw[k1,k2,k3]at Bf
  rw[Bf]at hk
  exact Vd (NI.Eg h.toNJ) hk q hq ⟨e1,e2,e3⟩
 exact ⟨S0,mU,by omega,bw,bl,cd,fun st=>h.yF bw bl ho cd hl st⟩
theorem NI.out {S:NS} (h:NI S) (f:List UInt8) (draw:Int):NI (S.out f draw).2∧j1 S (S.out f draw).2 2 1:=by
 have hS:∀ r,NI ((r,S):Rp × NS).2∧j1 S ((r,S):Rp × NS).2 2 1:=fun r=>⟨h,j1.refl ..⟩
 have hR:∀ e,NI (S.refuse f e).2∧j1 S (S.refuse f e).2 2 1:=fun e=>by
  obtain ⟨g1,g2⟩:=h.refuse f e
  exact ⟨g1,⟨by have:=g2.nx;omega,by have:=g2.rG;omega,g2.act,g2.loose⟩⟩
 rw[Eh]
 by_cases he:bZ f=0
 case neg=>rw[if_pos he];exact hS _
 rw[if_neg (by simpa using he)]
 by_cases hs:(az f).aB - 167772161 < 0∨8≤(az f).aB - 167772161
 ·rw[if_pos hs];exact hS _
 rw[if_neg hs]
 by_cases h2:(az f).af=1∧(az f).flags≠8
 ·rw[if_pos h2];exact hS _
 rw[if_neg h2]
 by_cases h3:(az f).av=1
 ·rw[if_pos h3];exact hS _
 rw[if_neg h3]
 by_cases hk:S.cQ (az f)=0
 case neg =>
  rw[if_pos hk]
  cases S.fwd (az f) with
  | none=>exact hS _
  | some m =>
   obtain ⟨g1,g2⟩:=(h.goes (S.cQ (az f)) (az f) false).dP f m []
   dsimp only
   refine ⟨g1,⟨?_,?_,g2.act,g2.loose⟩⟩
   ·have h3:_≤S.b7 + 1:=g2.nx
    omega
   ·have h3:_≤S.told + 0:=g2.rG
    omega
 rw[if_neg (by simpa using hk)]
 by_cases h4:A8 (az f).af (az f).flags=false
 ·rw[if_pos h4];exact hS _
 rw[if_neg h4]
 by_cases hl:48≤S.fl.length
 ·rw[if_pos hl];exact hR _
 rw[if_neg hl]
 by_cases ho:(S.tb.cE (az f).af ((az f).aB - 167772161) (az f).ai draw).2.2.2=0
 case neg=>rw[if_pos ho];exact hR _
 rw[if_neg (by simpa using ho)]
 obtain ⟨S0,mU,_,bw,bl,cd,hb⟩:=h.opened he hs hk ae ho
 rw[mU]
 unfold NS.opened
 have hb:=hb (pU (az f).af)
 generalize S.tb.cE (az f).af S0 (az f).ai draw=o at *
 obtain ⟨g1,g2⟩:=hb.dP f o.2.1 (if o.2.2.1 then [({ S with tb:=o.1 }:NS).ev o.2.1 false] else [])
 have hlen:(if o.2.2.1=true then [({ S with tb:=o.1 }:NS).ev o.2.1 false] else []).length≤1:=by split<;>simp
 refine ⟨g1,⟨?_,?_,g2.act,g2.loose⟩⟩
 ·have h2:=g2.nx
  have h3:_≤S.b7 + 1 + 1:=h2
  omega
 ·have h2:=g2.rG
  have h3:_≤S.told + _:=h2
  omega
theorem Ya9 (x:NS × List Ev) (k:Int):∃ tb es,cu x k=({ x.1 with fl:=x.1.fl.filter fun r=>!(r.1 == k),tb:=tb },x.2++es)∧es.length≤1∧(NJ x.1→∀ e ∈ es,e.t=x.1.now∧Zk e.t e.s e.a e.b=true):=by
 obtain ⟨S,l⟩:=x
 unfold cu
 dsimp only
 cases hf:S.fl.find? (fun q=>q.1 == k) with
 | none =>
  have:(S.fl.filter fun r=>!(r.1 == k))=S.fl:=List.filter_eq_self.2 fun q hq=>by have:=List.find?_eq_none.1 hf q hq;simpa using this
  rw[this]
  exact ⟨S.tb,[],by simp,by simp,by simp⟩
 | some q =>
  dsimp only
  split
  ·exact ⟨S.tb,[],by simp,by simp,by simp⟩
  ·refine ⟨(S.tb.cls q.2.map).1,if (S.tb.cls q.2.map).2.1 then [({ S with fl:=S.fl.filter fun r=>!(r.1 == k) }:NS).ev q.2.map true] else [],?_,by split<;>simp,fun h e he=>?_⟩
   ·split<;>simp
   ·split at he
    ·obtain rfl:=List.mem_singleton.1 he
     exact ⟨rfl,VE (S:={ S with fl:=S.fl.filter fun r=>!(r.1 == k) }) h.now h.gt (h.kJ q (List.mem_of_find?_eq_some hf)) true⟩
    ·cases he
structure lI (S S':NS) (K:List Int) (es:List Ev):Prop where
 nj:NJ S'
 fl:S'.fl=S.fl.filter fun q=>!(K.contains q.1)
 now:S'.now=S.now
 nx:S'.b7=S.b7
 told:S'.told=S.told
 ref:S'.ref=S.ref
 aE:S'.aE=S.aE
 loose:S'.loose=S.loose
 len:es.length≤K.length
 bQ:∀ e ∈ es,e.t=S.now∧Zk e.t e.s e.a e.b=true
theorem VG {S:NS} (h:NJ S):∀ K:List Int,∃ es,(K.foldl cu (S,[])).2=es∧lI S (K.foldl cu (S,[])).1 K es:=by
 have key:∀ (K K0:List Int) (x:NS × List Ev),lI S x.1 K0 x.2→lI S (K.foldl cu x).1 (K0++K) (K.foldl cu x).2:=by
  intro K
  induction K with
  | nil=>intro K0 x hx;rw[List.append_nil];exact hx
  | cons k K ih =>
   intro K0 x hx
   have:=ih (K0++[k]) (cu x k) ?_
   ·rw[List.append_assoc]at this;exact this
   ·obtain ⟨tb,es,e,hl,hg⟩:=Ya9 x k
    have VH:=hx.nj.cu k
    rw[e]at VH ⊢
    refine ⟨VH,?_,hx.now,hx.nx,hx.told,hx.ref,hx.aE,hx.loose,?_,?_⟩
    ·show x.1.fl.filter _=_
     rw[hx.fl,List.filter_filter]
     refine List.filter_congr fun q _=>?_
     rw[List.contains_eq_mem,List.contains_eq_mem]
     by_cases e1:q.1=k<;>by_cases e2:q.1 ∈ K0<;>simp[e1,e2]<;>simp[← e1,e2]
    ·have:=hx.len
     simp;omega
    ·intro e' lj
     rcases List.mem_append.1 lj with lj|lj
     ·exact hx.bQ e' lj
     ·have:=hg hx.nj e' lj
      rw[hx.now]at this
      exact this
 intro K
 refine ⟨_,rfl,?_⟩
 have:=key K [] (S,[]) ⟨h,(List.filter_eq_self.2 fun q _=>rfl).symm,rfl,rfl,rfl,rfl,rfl,rfl,by simp,by simp⟩
 rw[List.nil_append]at this
 exact this
theorem HF {D:List Tm} {n:Nat} {k:Int}:k ∈ bh D n ↔ ∃ t ∈ D,t.due < n∧t.id=k:=by
 unfold bh
 rw[List.mem_map]
 constructor
 ·rintro ⟨t,ht,rfl⟩
  have:=(Wp _).mem_iff.1 ht
  rw[List.mem_filter]at this
  exact ⟨t,this.1,by simpa using this.2,rfl⟩
 ·rintro ⟨t,ht,hd,rfl⟩
  exact ⟨t,(Wp _).mem_iff.2 (List.mem_filter.2 ⟨ht,by simpa using hd⟩),rfl⟩
theorem VI (D:List Tm) (n:Nat):(bh D n).length≤D.length:=by
 unfold bh
 rw[List.length_map,(Wp _).length_eq]
 exact List.length_filter_le _ _
def NS.later (S:NS) (d:Int):NS:={ S with now:=S.now + d.toNat,ref:=min 4 (S.ref + min d.toNat 4) }
theorem NI.later {S:NS} (h:NI S) {d:Int} (hd:¬ (d < 1∨549755813888 - S.now < d)):NJ (S.later d) :=
 ⟨h.gt,h.wf,h.ids,h.dJ,h.len,h.kJ,h.has,h.ry,by show S.now + d.toNat≤549755813888;omega,h.lH,by show min 4 _≤4;omega⟩
def NS.ended (S:NS) (d:Int):List Int:=bh S.a8 (S.now + d.toNat + 1)
theorem NI.rH {S:NS} (h:NI S) {d:Int} (hd:¬ (d < 1∨549755813888 - S.now < d)):∃ es,((S.ended d).foldl cu (S.later d,[])).2=es∧lI (S.later d) ((S.ended d).foldl cu (S.later d,[])).1 (S.ended d) es∧NI ((S.ended d).foldl cu (S.later d,[])).1∧es.length≤48:=by
 obtain ⟨es,e,hE⟩:=VG (h.later hd) (S.ended d)
 refine ⟨es,e,hE,⟨hE.nj,fun q hq=>?_⟩,?_⟩
 ·rw[hE.fl]at hq
  obtain ⟨nL,lP⟩:=List.mem_filter.1 hq
  have q8:=h.due q nL
  rw[hE.now]
  have hn:(S.later d).now=S.now + d.toNat:=rfl
  rw[hn]
  have NQ:q.1 ∉ S.ended d:=fun hm=>by
   rw[List.contains_iff_mem.2 hm]at lP;cases lP
  have:¬ q.2.due.toNat < S.now + d.toNat + 1:=fun hlt=>NQ (HF.2 ⟨⟨q.1,q.2.due.toNat⟩,List.mem_map.2 ⟨q,nL,rfl⟩,hlt,rfl⟩)
  omega
 ·refine Nat.le_trans hE.len (Nat.le_trans (VI _ _) ?_)
  unfold NS.a8
  rw[List.length_map];exact h.len
theorem Ei (S:NS) (d:Int):S.tick d=if d < 1∨549755813888 - S.now < d then (bT 2,S) else (⟨0,[],false,jJ S.told ((S.ended d).foldl cu (S.later d,[])).2⟩,(((S.ended d).foldl cu (S.later d,[])).1.log ((S.ended d).foldl cu (S.later d,[])).2)):=rfl
theorem NI.tick {S:NS} (h:NI S) (d:Int):NI (S.tick d).2∧j1 S (S.tick d).2 0 48:=by
 rw[Ei]
 split
 ·exact ⟨h,j1.refl ..⟩
 ·rename_i hd
  obtain ⟨es,e,hE,hN,hl⟩:=h.rH hd
  rw[e]
  refine ⟨hN.ko _,⟨?_,?_,hE.aE,hE.loose⟩⟩
  ·show NS.b7 (List.foldl cu (S.later d,[]) (S.ended d)).1≤_
   rw[hE.nx];show S.b7≤_;omega
  ·show NS.told (List.foldl cu (S.later d,[]) (S.ended d)).1 + es.length≤_
   rw[hE.told];show S.told + _≤_;omega
theorem NI.uU {S:NS} (h:NI S) (a:Int) (to:Bool):NI { S with tb:={ S.tb with aq:=(S.tb.aq.drain a to).1 } } :=
 ⟨⟨h.gt.drain a to,⟨ax.dZ _ h.wf.aq a to,h.wf.home⟩,h.ids,h.dJ,h.len,h.kJ,h.has,h.ry,h.now,h.lH,h.ref⟩,h.due⟩
theorem NK.of {S S':NS} (h:NK S) (ha:S.aE < 300) (hn:NI S') (hc:j1 { S with aE:=S.aE + 1 } S' 2 64):NK S' :=
 ⟨hn,by have h1:=hc.nx;have h2:=hc.act;have h3:=h.nx;have h1:S'.b7≤S.b7 + 2:=h1;rw[h2];show S'.b7≤2 * ((S.aE + 1:Nat):Int);omega,
  by have h1:=hc.rG;have h2:=hc.act;have h3:=h.rG;have h1:S'.told≤S.told + 64:=h1;rw[h2];show S'.told≤64 * (S.aE + 1);omega,
  by rw[hc.act];exact ha⟩
theorem j1.up {S S':NS} {a b a' b':Nat} (h:j1 S S' a b) (h1:a≤a') (h2:b≤b'):j1 S S' a' b':=⟨by have:=h.nx;omega,by have:=h.rG;omega,h.act,h.loose⟩
theorem NK.step {S:NS} (h:NK S) (a:Ac):NK (S.step a).2:=by
 unfold NS.step
 split
 ·exact h
 rename_i ha
 have ha:S.aE < 300:=by omega
 have h1:=h.toNI.gI (S.aE + 1)
 dsimp only
 split
 ·exact h.of ha (h1.out a.frame a.draw).1 ((h1.out a.frame a.draw).2.up aI aI)
 split
 ·exact h.of ha (h1.aR a.frame).1 ((h1.aR a.frame).2.up aI aI)
 split
 ·exact h.of ha (h1.tick a.n).1 ((h1.tick a.n).2.up aI aI)
 split
 ·split
  ·exact h.of ha (h1.uU a.n _) ⟨by show S.b7≤S.b7 + (2:Nat);omega,by show S.told≤S.told + 64;omega,rfl,rfl⟩
  ·exact h.of ha h1 (j1.refl ..)
 ·exact h.of ha h1 (j1.refl ..)
theorem NK.new (b:Bool):NK (NS.new b):=by
 refine ⟨⟨⟨Ycx,Ycy,by simp[NS.new],by simp[NS.new],by simp[NS.new],by simp[NS.new],by simp[NS.new],by simp[NS.new],by simp[NS.new],by simp[NS.new],by simp[NS.new]⟩,by simp[NS.new]⟩,by simp[NS.new],by simp[NS.new],by simp[NS.new]⟩
end Go.Proofs.YtogckmommodmhaaGreatDoor
