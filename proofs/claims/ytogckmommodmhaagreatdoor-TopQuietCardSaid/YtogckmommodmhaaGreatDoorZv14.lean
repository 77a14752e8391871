import Derived.Test.YtogckmommodmhaaGreatDoorZv5
import Derived.Test.YtogckmommodmhaaGreatDoorZv4
import Derived.Test.YtogckmommodmhaaGreatDoorZv6
import Derived.Test.YtogckmommodmhaaGreatDoorZv11
import Derived.Test.YtogckmommodmhaaGreatDoorZv8
import Derived.Test.YtogckmommodmhaaGreatDoorZv12
import Derived.Test.YtogckmommodmhaaGreatDoorZv9
import Derived.Test.YtogckmommodmhaaGreatDoorZv13
import Derived.Test.YtogckmommodmhaaGreatDoorChecked
import Derived.KernelRfl
import Derived.Test.YtogckmommodmhaaGreatDoorRows
namespace Go.Proofs.YtogckmommodmhaaGreatDoor
open Go.RowKit
set_option linter.all false
set_option linter.unusedSimpArgs false
set_option maxRecDepth 100000
structure Ev where
 t:Int
 s:Int
 a:Int
 b:Int
 f:Bool
def Ev.enc (e:Ev):List AV:=[.int .i64 e.t,.int .i64 e.s,.int .i64 e.a,.int .i64 e.b,.bool e.f]
def Yr (l:List Ev):List AV:=l.flatMap Ev.enc
theorem wa (l:List Ev):(Yr l).length=l.length * 5:=by
 induction l with
 | nil=>rfl
 | cons e l ih=>simp[Yr,Ev.enc]at ih ⊢;omega
theorem Nk (l:List Ev) (k:Nat) (h:k < l.length):((Yr l).drop (k * 5)).take 5=(l[k]).enc:=by
 induction l generalizing k with
 | nil=>simp at h
 | cons e l ih =>
  cases k with
  | zero=>simp[Yr,Ev.enc]
  | succ k =>
   have:=ih k (by simpa using h)
   have e1:Yr (e::l)=e.enc++Yr l:=by simp[Yr]
   rw[e1,List.drop_append,List.drop_eq_nil_of_le (by simp[Ev.enc];omega)]
   have e2:(k + 1) * 5 - e.enc.length=k * 5:=by simp[Ev.enc];omega
   rw[e2];simpa using this
theorem UY (l:List Ev) (i:Nat) (h:i < l.length) (j:Nat) (hj:j < 5):(Yr l).getD (i * 5 + j) .any=l[i].enc.getD j .any:=by
 have:=Nk l i h
 rw[← this,QE hj]
theorem Up (n:Nat) (l:List Ev):ai n (Yr l):=by
 rw[Xv]
 intro x hx
 obtain ⟨e,_,he⟩:=List.mem_flatMap.1 hx
 simp[Ev.enc]at he
 rcases he with rfl|rfl|rfl|rfl|rfl<;>simp[Qe]
theorem Xzc (n:Nat) (l:List Ev):ai n (Yr l)=True:=eq_true (Up n l)
theorem Xp1 (ρ:Nat→Nat) (l:List Ev):az ρ (Yr l)=Yr l:=by
 rw[Yu]
 refine (List.map_congr_left (g:=id) fun x hx=>?_).trans (List.map_id _)
 obtain ⟨e,_,he⟩:=List.mem_flatMap.1 hx
 simp[Ev.enc]at he
 rcases he with rfl|rfl|rfl|rfl|rfl<;>simp[aE]
attribute [go_sem] Xzc Xp1 wa
def uP (o:List Int) (e:Ev):Option (List Int) × Int :=
 if Zo e.t e.s e.a e.b=false then (none,2)
 else
  let i:=(e.a * 6 + e.b).toNat
  if e.f=false∧o.getD i 0≠0 then (none,8)
  else if e.f=true∧o.getD i 0≠e.s + 1 then (none,7)
  else (some (o.set i (if e.f then 0 else e.s + 1)),0)
def Us:List Int→List Ev→List Int × Int
 | o,[]=>(o,0)
 | o,e::l=>match uP o e with
  | (some o',_)=>Us o' l
  | (none,k)=>(List.replicate 18 0,k)
def lI (e:Ev):List UInt8:=be e.t 8++be (167772161 + e.s) 4++be (3405803777 + e.a) 4++be (1024 + 8 * e.b) 2++be (1031 + 8 * e.b) 2++be (if e.f then 2 else 1) 1
theorem UZ (e:Ev):(lI e).length=21:=by simp[lI,Qi]
def Kx (l:List Ev):List UInt8:=l.flatMap lI
theorem A0 (l:List Ev):(Kx l).length=21 * l.length:=by
 induction l with
 | nil=>rfl
 | cons e l ih=>simp[Kx,UZ]at ih ⊢;omega
theorem Xnc (l:List Ev) (k:Nat) (h:k < l.length):Kx (l.take (k + 1))=Kx (l.take k)++lI l[k]:=by
 rw[List.take_add_one,List.getElem?_eq_getElem h]
 simp only[Kx,List.flatMap_append,Option.toList_some,List.flatMap_cons,List.flatMap_nil,List.append_nil]
def wc (t0:Int) (l:List Ev):Bool:=l.all fun e=>Zo e.t e.s e.a e.b && e.t == t0
def we (seq:Int):List Ev→AV
 | []=>.aU [.str [],.int .i64 7]
 | e::l=>if 64 < l.length + 1 then .aU [.str [],.int .i64 6] else if wc e.t (e::l)=true then kB seq e.t 300 (Kx (e::l)) else .aU [.str [],.int .i64 2]
theorem Yap (n:Nat) (seq time set:Int) (bs:List UInt8):Qe n (kB seq time set bs):=by unfold kB;split<;>simp[Qe,ai]
theorem Xsh (n:Nat) (seq:Int) (l:List Ev):Qe n (we seq l):=by
 unfold we
 split
 ·simp[Qe,ai]
 ·split
  ·simp[Qe,ai]
  ·split
   ·exact Yap _ _ _ _ _
   ·simp[Qe,ai]
set_option maxHeartbeats 2000000 in
theorem Xh7 (gl:Nat→AV) (seq:Int) (l:List Ev) (gF:l.length≤4611686018427387904) :
  PS Tryz.prog gl 135 [.int .i64 seq,.isl l.length (Yr l)] (we seq l):=by
 refine Rr.ps (of_decide_eq_true rfl) (Xsh _ _ _) fun c hN hg=>?_
 conv in aQ _ _=>cbv
 have hl:=wa l
 refine Qg ?_
 (refine Qa (fun h1=>?_) (fun h1=>?_)<;>try exact h1.elim)
 ·have:l=[]:=List.eq_nil_of_length_eq_zero af
  subst this
  refine Qg ?_
  rfl
 obtain ⟨e0,l0,hL⟩:∃ e0 l0,e0::l0=l:=by
  cases l with
  | nil=>simp at h1
  | cons e l=>exact ⟨e,l,rfl⟩
 have jr:(Yr l).getD 0 .any=.int .i64 e0.t:=by
  have:=UY (e0::l0) 0 av 0 aP
  simp only[List.getElem_cons_zero,Ev.enc,List.getD_cons_zero,Nat.zero_mul,Nat.zero_add]at this
  rw[← hL];exact this
 refine Qg ?_
 (refine Qa (fun h2=>?_) (fun h2=>?_)<;>try exact h2.elim)
 ·refine Qg ?_
  subst hL
  simp only[we]
  rw[if_pos (by simp only[List.length_cons]at h2;omega)]
 have hlen:l.length≤64:=by omega
 have gY:¬ 64 < l0.length + 1:=by rw[← hL]at hlen;simp only[List.length_cons]at hlen;omega
 generalize l=L at *
 refine Qg ?_
 refine Xo5 (ps:=[(6,1)]) (by exact Qw) ?_
 (refine XG ?_)
 refine Xs (fun k:Nat=>k≤L.length∧wc e0.t (L.take k)=true) (fun k=>⟨[(0,.int .i64 seq),(1,.isl L.length (Yr L)),(6,.sl 1 0 0 (21 * k) (21 * k)),(17,.isl L.length (Yr L)),(18,.int .i64 L.length),(19,.int .i64 k)],[(0,.cells (Xq (Kx (L.take k))))],1⟩) (fun k=>L.length - k) Rr.mixed hN
  ⟨0,⟨by omega,rfl⟩,[],by refine Qg ?_;rfl⟩ fun k ⟨hk,b8⟩=>?_
 refine Qg ?_
 (refine Qa (fun h3=>?_) (fun h3=>?_)<;>try exact h3.elim)
 ·have bF:k < L.length:=by omega
  have a8:=Nk L k bF
  have eQ:=Xnc L k bF
  have lB:wc e0.t (L.take (k + 1))=(Zo L[k].t L[k].s L[k].a L[k].b && L[k].t == e0.t):=by
   unfold wc at b8 ⊢
   rw[List.take_add_one,List.getElem?_eq_getElem bF,List.all_append,b8]
   simp
  have eN:(Zo L[k].t L[k].s L[k].a L[k].b && L[k].t == e0.t)=false→wc e0.t L=false:=fun hb=>by
   unfold wc
   rw[List.all_eq_false]
   exact ⟨L[k],List.getElem_mem _,by rw[hb];simp⟩
  have lT:(Kx (L.take k)).length=21 * k:=by rw[A0];simp;omega
  generalize L[k]=e at *
  obtain ⟨t,sb,a,b,f⟩:=e
  simp only[Ev.enc]at a8
  refine Qh (An @hl @a8) ?_
  ((first|apply Xt|apply Xl|apply Xd|apply Xb)<;>(first|exact (J4 _ _ _ _ _ _)|(have au:=@a8;have aH:=@jr;refine XG ?_;clear au aH;first|exact rfl|exact True.intro|((try (repeat' with_reducible refine And.intro ?_ ?_));(try any_goals (first|refine zm ?_|exact CL|fail))))))
  (refine Qa (fun h4=>?_) (fun h4=>?_)<;>try exact h4.elim)
  ·have hb:=eN (by
    simp only[qH]at h4
    cases hg:Zo t sb a b
    ·rfl
    ·rw[if_pos hg]at h4;simpa using h4)
   refine Qg ?_
   subst hL
   simp only[we]
   rw[if_neg gY,if_neg (by rw[hb];simp)]
  ·have bf:Zo t sb a b=true:=by
    simp only[qH]at h4
    by_cases hg:Zo t sb a b=true
    ·exact hg
    ·rw[if_neg hg]at h4;simp at h4
   have ht:t=e0.t:=by
    simp only[qH]at h4
    rw[if_pos bf]at h4;simpa using h4
   have hr:=bf
   simp[Zo]at hr
   generalize hB:Kx (L.take k)=B at *
   have fP:B.length≤100000000 - 21:=by omega
   refine Qg ?_
   ((first|refine Qx (ins:=[0]) (Xa c.gl B t 8 (by decide) (by omega)) ?_ ?_|refine Qt (ins:=[0]) (Xa c.gl B t 8 (by decide) (by omega)) ?_ ?_|refine Qs (ins:=[0]) (Xa c.gl B t 8 (by decide) (by omega)) ?_ ?_|refine Qq (ins:=[0]) (Xa c.gl B t 8 (by decide) (by omega)) ?_ ?_)<;>(have au:=@Qi;have aH:=@lT;refine XG ?_;clear au aH;(try first|exact rfl|exact True.intro);((try (repeat' with_reducible refine And.intro ?_ ?_));(try any_goals (first|refine zm ?_|exact CL|fail)))))
   ((first|refine Qx (ins:=[2]) (Xa c.gl (B++be t 8) (167772161 + sb) 4 (by decide) (by simp[Qi];omega)) ?_ ?_|refine Qt (ins:=[2]) (Xa c.gl (B++be t 8) (167772161 + sb) 4 (by decide) (by simp[Qi];omega)) ?_ ?_|refine Qs (ins:=[2]) (Xa c.gl (B++be t 8) (167772161 + sb) 4 (by decide) (by simp[Qi];omega)) ?_ ?_|refine Qq (ins:=[2]) (Xa c.gl (B++be t 8) (167772161 + sb) 4 (by decide) (by simp[Qi];omega)) ?_ ?_)<;>(have au:=@Qi;have aH:=@lT;refine XG ?_;clear au aH;(try first|exact rfl|exact True.intro);((try (repeat' with_reducible refine And.intro ?_ ?_));(try any_goals (first|refine zm ?_|exact CL|fail)))))
   ((first|refine Qx (ins:=[3]) (Xa c.gl (B++be t 8++be (167772161 + sb) 4) (3405803777 + a) 4 (by decide) (by simp[Qi];omega)) ?_ ?_|refine Qt (ins:=[3]) (Xa c.gl (B++be t 8++be (167772161 + sb) 4) (3405803777 + a) 4 (by decide) (by simp[Qi];omega)) ?_ ?_|refine Qs (ins:=[3]) (Xa c.gl (B++be t 8++be (167772161 + sb) 4) (3405803777 + a) 4 (by decide) (by simp[Qi];omega)) ?_ ?_|refine Qq (ins:=[3]) (Xa c.gl (B++be t 8++be (167772161 + sb) 4) (3405803777 + a) 4 (by decide) (by simp[Qi];omega)) ?_ ?_)<;>(have au:=@Qi;have aH:=@lT;refine XG ?_;clear au aH;(try first|exact rfl|exact True.intro);((try (repeat' with_reducible refine And.intro ?_ ?_));(try any_goals (first|refine zm ?_|exact CL|fail)))))
   ((first|refine Qx (ins:=[4]) (Xa c.gl (B++be t 8++be (167772161 + sb) 4++be (3405803777 + a) 4) (1024 + b * 8) 2 (by decide) (by simp[Qi];omega)) ?_ ?_|refine Qt (ins:=[4]) (Xa c.gl (B++be t 8++be (167772161 + sb) 4++be (3405803777 + a) 4) (1024 + b * 8) 2 (by decide) (by simp[Qi];omega)) ?_ ?_|refine Qs (ins:=[4]) (Xa c.gl (B++be t 8++be (167772161 + sb) 4++be (3405803777 + a) 4) (1024 + b * 8) 2 (by decide) (by simp[Qi];omega)) ?_ ?_|refine Qq (ins:=[4]) (Xa c.gl (B++be t 8++be (167772161 + sb) 4++be (3405803777 + a) 4) (1024 + b * 8) 2 (by decide) (by simp[Qi];omega)) ?_ ?_)<;>(have au:=@Qi;have aH:=@lT;refine XG ?_;clear au aH;(try first|exact rfl|exact True.intro);((try (repeat' with_reducible refine And.intro ?_ ?_));(try any_goals (first|refine zm ?_|exact CL|fail)))))
   ((first|refine Qx (ins:=[5]) (Xa c.gl (B++be t 8++be (167772161 + sb) 4++be (3405803777 + a) 4++be (1024 + b * 8) 2) (1024 + b * 8 + 8 - 1) 2 (by decide) (by simp[Qi];omega)) ?_ ?_|refine Qt (ins:=[5]) (Xa c.gl (B++be t 8++be (167772161 + sb) 4++be (3405803777 + a) 4++be (1024 + b * 8) 2) (1024 + b * 8 + 8 - 1) 2 (by decide) (by simp[Qi];omega)) ?_ ?_|refine Qs (ins:=[5]) (Xa c.gl (B++be t 8++be (167772161 + sb) 4++be (3405803777 + a) 4++be (1024 + b * 8) 2) (1024 + b * 8 + 8 - 1) 2 (by decide) (by simp[Qi];omega)) ?_ ?_|refine Qq (ins:=[5]) (Xa c.gl (B++be t 8++be (167772161 + sb) 4++be (3405803777 + a) 4++be (1024 + b * 8) 2) (1024 + b * 8 + 8 - 1) 2 (by decide) (by simp[Qi];omega)) ?_ ?_)<;>(have au:=@Qi;have aH:=@lT;refine XG ?_;clear au aH;(try first|exact rfl|exact True.intro);((try (repeat' with_reducible refine And.intro ?_ ?_));(try any_goals (first|refine zm ?_|exact CL|fail)))))
   have e1:1024 + 8 * b=1024 + b * 8:=by omega
   have e2:1031 + 8 * b=1024 + b * 8 + 8 - 1:=by omega
   cases f with
   | false =>
    (refine Qa (fun h5=>?_) (fun h5=>?_)<;>try exact h5.elim)
    refine Qg ?_
    ((first|refine Qx (ins:=[6]) (Xa c.gl (B++be t 8++be (167772161 + sb) 4++be (3405803777 + a) 4++be (1024 + b * 8) 2++be (1024 + b * 8 + 8 - 1) 2) 1 1 (by decide) (by simp[Qi];omega)) ?_ ?_|refine Qt (ins:=[6]) (Xa c.gl (B++be t 8++be (167772161 + sb) 4++be (3405803777 + a) 4++be (1024 + b * 8) 2++be (1024 + b * 8 + 8 - 1) 2) 1 1 (by decide) (by simp[Qi];omega)) ?_ ?_|refine Qs (ins:=[6]) (Xa c.gl (B++be t 8++be (167772161 + sb) 4++be (3405803777 + a) 4++be (1024 + b * 8) 2++be (1024 + b * 8 + 8 - 1) 2) 1 1 (by decide) (by simp[Qi];omega)) ?_ ?_|refine Qq (ins:=[6]) (Xa c.gl (B++be t 8++be (167772161 + sb) 4++be (3405803777 + a) 4++be (1024 + b * 8) 2++be (1024 + b * 8 + 8 - 1) 2) 1 1 (by decide) (by simp[Qi];omega)) ?_ ?_)<;>(have au:=@Qi;have aH:=@lT;refine XG ?_;clear au aH;(try first|exact rfl|exact True.intro);((try (repeat' with_reducible refine And.intro ?_ ?_));(try any_goals (first|refine zm ?_|exact CL|fail)))))
    refine ⟨k + 1,⟨by omega,by rw[lB,bf,ht];simp⟩,⟨[(0,7)],?_⟩,by omega⟩
    refine Qh @eQ ?_
    simp[lI,e1,e2]
   | true =>
    (refine Qa (fun h5=>?_) (fun h5=>?_)<;>try exact h5.elim)
    refine Qg ?_
    ((first|refine Qx (ins:=[6]) (Xa c.gl (B++be t 8++be (167772161 + sb) 4++be (3405803777 + a) 4++be (1024 + b * 8) 2++be (1024 + b * 8 + 8 - 1) 2) 2 1 (by decide) (by simp[Qi];omega)) ?_ ?_|refine Qt (ins:=[6]) (Xa c.gl (B++be t 8++be (167772161 + sb) 4++be (3405803777 + a) 4++be (1024 + b * 8) 2++be (1024 + b * 8 + 8 - 1) 2) 2 1 (by decide) (by simp[Qi];omega)) ?_ ?_|refine Qs (ins:=[6]) (Xa c.gl (B++be t 8++be (167772161 + sb) 4++be (3405803777 + a) 4++be (1024 + b * 8) 2++be (1024 + b * 8 + 8 - 1) 2) 2 1 (by decide) (by simp[Qi];omega)) ?_ ?_|refine Qq (ins:=[6]) (Xa c.gl (B++be t 8++be (167772161 + sb) 4++be (3405803777 + a) 4++be (1024 + b * 8) 2++be (1024 + b * 8 + 8 - 1) 2) 2 1 (by decide) (by simp[Qi];omega)) ?_ ?_)<;>(have au:=@Qi;have aH:=@lT;refine XG ?_;clear au aH;(try first|exact rfl|exact True.intro);((try (repeat' with_reducible refine And.intro ?_ ?_));(try any_goals (first|refine zm ?_|exact CL|fail)))))
    refine ⟨k + 1,⟨by omega,by rw[lB,bf,ht];simp⟩,⟨[(0,7)],?_⟩,by omega⟩
    refine Qh @eQ ?_
    simp[lI,e1,e2]
 ·have:k=L.length:=by omega
  subst this
  rw[List.take_length]at b8 ⊢
  have hb:(Kx L).length≤10000000:=by rw[A0];omega
  have hm:=Rt c.gl seq e0.t 300 (Kx L) hb
  have e2:we seq L=kB seq e0.t 300 (Kx L):=by
   subst hL
   simp only[we]
   rw[if_neg gY,if_pos b8]
  have Nl:=A0 L
  rw[e2]
  clear e2
  rw[Nl]at hm
  have hf:Kd (kB seq e0.t 300 (Kx L)):=by
   unfold kB;split<;>exact .aU (by simp[Kd.str,Kd.int])
  unfold kB at hm hf ⊢
  refine Qh @jr ?_
  split at hm
  ·rename_i hq
   rw[if_pos hq]at hf
   ((first|apply Wy|apply Kv)<;>(first|exact hm|(with_reducible exact hf)|(have au:=@jr;have aH:=@Nl;refine XG ?_;clear au aH;first|exact rfl|exact True.intro|((try (repeat' with_reducible refine And.intro ?_ ?_));(try any_goals (first|refine zm ?_|exact CL|fail))))))
   rw[if_pos (by assumption)]
  ·rename_i hq
   rw[if_neg hq]at hf
   ((first|apply Wy|apply Kv)<;>(first|exact hm|(with_reducible exact hf)|(have au:=@jr;have aH:=@Nl;refine XG ?_;clear au aH;first|exact rfl|exact True.intro|((try (repeat' with_reducible refine And.intro ?_ ?_));(try any_goals (first|refine zm ?_|exact CL|fail))))))
   rw[if_neg (by assumption)]
theorem Xt6:FT Tryz.prog 92 Tryz.f92 (aQ Tryz.prog Tryz.f92) [.t 2]:=.of Tryz.func92
theorem Xym:FT Tryz.prog 130 Tryz.f130 (aQ Tryz.prog Tryz.f130) [.t 4]:=.of Tryz.func130
theorem Xzg:FT Tryz.prog 132 Tryz.f132 (aQ Tryz.prog Tryz.f132) [.cell 8 (.ag 10)]:=.of Tryz.func132
theorem Xj7:FT Tryz.prog 87 Tryz.f87 (aQ Tryz.prog Tryz.f87) [.t 2]:=.of Tryz.func87
def Km (ae st:Int):Int:=if ae=1 then 8 else if ae=17 then 20 else if st=2 then 60 else if st=1 then 4 else 6
theorem U0 (gl:Nat→AV) (ae st:Int):PS Tryz.prog gl 130 [.int .i64 ae,.int .i64 st] (.int .i64 (Km ae st)):=by
 refine Xym.ps (of_decide_eq_true rfl) (by simp[Qe]) fun c hN hg=>?_
 conv in aQ _ _=>cbv
 (refine XG ?_;((try (repeat' with_reducible refine And.intro ?_ ?_));(try any_goals (first|refine zm ?_|exact CL|fail))))
 (refine Qa (fun h1=>?_) (fun h1=>?_)<;>try exact h1.elim)
 ·(refine XG ?_;((try (repeat' with_reducible refine And.intro ?_ ?_));(try any_goals (first|refine zm ?_|exact CL|fail))))
  simp_all [Km]
 (refine XG ?_;((try (repeat' with_reducible refine And.intro ?_ ?_));(try any_goals (first|refine zm ?_|exact CL|fail))))
 (refine Qa (fun h2=>?_) (fun h2=>?_)<;>try exact h2.elim)
 ·(refine XG ?_;((try (repeat' with_reducible refine And.intro ?_ ?_));(try any_goals (first|refine zm ?_|exact CL|fail))))
  simp_all [Km]
 (refine XG ?_;((try (repeat' with_reducible refine And.intro ?_ ?_));(try any_goals (first|refine zm ?_|exact CL|fail))))
 (refine Qa (fun h3=>?_) (fun h3=>?_)<;>try exact h3.elim)
 ·(refine XG ?_;((try (repeat' with_reducible refine And.intro ?_ ?_));(try any_goals (first|refine zm ?_|exact CL|fail))))
  simp_all [Km]
 (refine XG ?_;((try (repeat' with_reducible refine And.intro ?_ ?_));(try any_goals (first|refine zm ?_|exact CL|fail))))
 (refine Qa (fun h4=>?_) (fun h4=>?_)<;>try exact h4.elim)
 ·(refine XG ?_;((try (repeat' with_reducible refine And.intro ?_ ?_));(try any_goals (first|refine zm ?_|exact CL|fail))))
  simp_all [Km]
 ·(refine XG ?_;((try (repeat' with_reducible refine And.intro ?_ ?_));(try any_goals (first|refine zm ?_|exact CL|fail))))
  simp_all [Km]
def pf (ae st sd du fl:Int) (cg:Bool) (now:Int):Int × Int × Int :=
 let b (n:Int):=bits .and .i64 fl n
 let side:Int:=if cg then 1 else 0
 let x:Int × Int × Bool:=if ae=6 then
   (if b 4≠0 then (4,sd,st != 4) else if st=1∧cg=true∧b 18=18 then (2,sd,true) else if st=2∧b 1≠0 then (3,side,true)
    else if st=3∧b 1≠0∧sd≠side then (4,sd,true) else if st=1 then (st,sd,!cg && b 2 != 0) else (st,sd,st == 2))
  else (st,sd,!(cg && ae == 17))
 (x.1,x.2.1,if x.2.2 then IntKind.i64.wrap (now + Km ae x.1) else du)
def Wf (p s i a pt r rp st sd du:Int):List AV:=[.int .i64 p,.int .i64 s,.int .i64 i,.int .i64 a,.int .i64 pt,.int .i64 r,.int .i64 rp,.int .i64 st,.int .i64 sd,.int .i64 du]
set_option maxHeartbeats 4000000 in
theorem U1 (gl:Nat→AV) (p s i a pt r rp st sd du:Int) (f1 f2 f3 f4 f5 f6 f7 fl f9 f10 f11:Int) (bd:List UInt8) (cg:Bool) (now:Int) :
  PS Tryz.prog gl 132 [.agg (Wf p s i a pt r rp st sd du),.agg [.int .i64 f1,.int .i64 f2,.int .i64 f3,.int .i64 f4,.int .i64 f5,.int .i64 f6,.int .i64 f7,.int .i64 fl,.int .i64 f9,.int .i64 f10,.int .i64 f11,.str bd],.bool cg,.int .i64 now]
   (.agg (Wf p s i a pt r rp (pf p st sd du fl cg now).1 (pf p st sd du fl cg now).2.1 (pf p st sd du fl cg now).2.2)):=by
 refine Xzg.ps (of_decide_eq_true rfl) (by simp[Qe,ai,Wf]) fun c hN hg=>?_
 conv in aQ _ _=>cbv
 (have au:=@Wf.eq_1;refine XG ?_;clear au;((try (repeat' with_reducible refine And.intro ?_ ?_));(try any_goals (first|refine zm ?_|exact CL|fail))))
 (repeat' (first|((refine Qa (fun hh=>?_) (fun hh=>?_)<;>try exact hh.elim)<;>(have au:=@Wf.eq_1;refine XG ?_;clear au;((try (repeat' with_reducible refine And.intro ?_ ?_));(try any_goals (first|refine zm ?_|exact CL|fail)))))|((first|apply Xt|apply Xl|apply Xd|apply Xb)<;>(first|exact (U0 _ _ _)|(have au:=@Wf.eq_1;refine XG ?_;clear au;first|exact rfl|exact True.intro|((try (repeat' with_reducible refine And.intro ?_ ?_));(try any_goals (first|refine zm ?_|exact CL|fail))))))))
 all_goals simp_all [pf]
 all_goals (split<;>simp_all)
structure Fl where
 map:Mp
 rem:Int
 rport:Int
 st:Int
 side:Int
 due:Int
 deriving DecidableEq
def Fl.enc (f:Fl):List AV:=Wf f.map.ae f.map.s f.map.aR f.map.a f.map.port f.rem f.rport f.st f.side f.due
structure Rp where
 code:Int
 frame:List UInt8
 inner:Bool
 log:List UInt8
def Rp.enc (r:Rp):List AV:=[.int .i64 r.code,.str r.frame,.bool r.inner,.str r.log]
def bS (e:Int):Rp:=⟨e,[],false,[]⟩
structure Ac where
 kind:Int
 n:Int
 draw:Int
 frame:List UInt8
def Ac.enc (a:Ac):List AV:=[.int .i64 a.kind,.int .i64 a.n,.int .i64 a.draw,.str a.frame]
structure NS where
 tb:Tb
 fl:List (Int × Fl)
 b7:Int
 now:Nat
 told:Nat
 ref:Nat
 aF:Nat
 loose:Bool
def NS.keys (S:NS):List Int:=S.fl.map (·.1)
def NS.bb (S:NS):List Tm:=S.fl.map fun q=>⟨q.1,q.2.due.toNat⟩
def NS.findF (S:NS) (m:Mp) (r rp:Int):Int:=match S.fl.find? (fun q=>decide (q.2.map=m) && q.2.rem == r && q.2.rport == rp) with
 | some q=>q.1
 | none=>0
def Fl.next (f:Fl) (p:Pk) (cg:Bool) (now:Int):Fl :=
 let x:=pf f.map.ae f.st f.side f.due p.flags cg now
 { f with st:=x.1,side:=x.2.1,due:=x.2.2 }
def NS.goes (S:NS) (k:Int) (p:Pk) (cg:Bool):NS:={ S with fl:=S.fl.map fun q=>if q.1=k then (q.1,q.2.next p cg S.now) else q }
def NS.begin (S:NS) (f:Fl):NS:={ S with b7:=S.b7 + 1,fl:=S.fl++[(S.b7 + 1,{ f with due:=S.now + Km f.map.ae f.st })] }
def NS.ev (S:NS) (m:Mp) (free:Bool):Ev:=⟨S.now,m.s,m.a,Xk m.port,free⟩
def jD (told:Nat) (l:List Ev):List UInt8:=if l=[] then [] else (if told=0 then Yq 0 0 2 (Kc 6) else [])++Yq told (l.headD ⟨0,0,0,0,false⟩).t 300 (Kx l)
def NS.log (S:NS) (l:List Ev):NS:={ S with told:=S.told + l.length }
def Zf (f:List UInt8) (side addr port:Int):List UInt8 :=
 if bY f≠0 then [] else if Ul (aB f) side addr port≠0 then [] else Yl f (aB f).ae (aB f).aw (oJ side) (oK (aB f).ae side) addr port
def NS.refuse (S:NS) (f:List UInt8) (e:Int):Rp × NS :=
 if S.ref=0∨bY f≠0 then (bS e,S) else (⟨e,mI f (w4 f 12) S.ref,true,[]⟩,{ S with ref:=S.ref - 1 })
def NS.aR (S:NS) (f:List UInt8):Rp × NS :=
 if bY f≠0 then (bS (bY f),S) else
 let p:=aB f
 let a:=p.dst - 3405803777
 if a < 0∨3≤a then (bS 7,S) else
 if p.ae=1∧p.flags≠0 then (bS 4,S) else
 if p.aw=1 then (bS 12,S) else
 match S.tb.maps.find? (Wc p.ae a p.aj) with
 | none=>(bS 7,S)
 | some m =>
  let go:Rp:=⟨0,Zf f 1 (167772161 + m.s) m.aR,true,[]⟩
  if S.findF m p.aA p.ah≠0 then (go,S.goes (S.findF m p.aA p.ah) p true) else
  if S.loose=false∧(S.fl.any fun q=>decide (q.2.map=m) && q.2.rem == p.aA)=false then (bS 11,S) else
  if p.ae≠17∨48≤S.fl.length then (bS 11,S) else
  (go,S.begin ⟨m,p.aA,p.ah,2,0,0⟩)
def NS.dQ (S:NS) (f:List UInt8) (m:Mp) (es:List Ev):Rp × NS :=
 let g:=Zf f 0 (3405803777 + m.a) m.port
 let S1:=S.log es
 let to:=(aB f).dst - 3405803777
 if 0≤to∧to < 3 then
  let x:=S1.aR g
  ({ x.1 with log:=jD S.told es },x.2)
 else (⟨0,g,false,jD S.told es⟩,S1)
def pY (ae:Int):Int:=if ae=6 then 1 else 2
def A1 (ae flags:Int):Bool :=
 if ae=17 then true else if ae=1 then flags == 8 else decide (ae=6) && bits .and .i64 flags 23 == 2
noncomputable def NS.out (S:NS) (f:List UInt8) (draw:Int):Rp × NS :=
 if bY f≠0 then (bS (bY f),S) else
 let p:=aB f
 let s:=p.aA - 167772161
 if s < 0∨8≤s then (bS 7,S) else
 if p.ae=1∧p.flags≠8 then (bS 4,S) else
 if p.aw=1 then (bS 12,S) else
 let k:=match S.tb.maps.find? (Zi p.ae s p.ah) with
  | some m=>S.findF m p.dst p.aj
  | none=>0
 if k≠0 then
  match S.tb.maps.find? (Zi p.ae s p.ah) with
  | some m=>(S.goes k p false).dQ f m []
  | none=>(bS 0,S)
 else
  if A1 p.ae p.flags=false then (bS 11,S) else
  if 48≤S.fl.length then S.refuse f 6 else
  let o:=S.tb.cz p.ae s p.ah draw
  if o.2.2.2≠0 then S.refuse f o.2.2.2 else
  let S1:NS:={ S with tb:=o.1 }
  (S1.begin ⟨o.2.1,p.dst,p.aj,pY p.ae,0,0⟩).dQ f o.2.1 (if o.2.2.1 then [S1.ev o.2.1 false] else [])
noncomputable def cj (x:NS × List Ev) (k:Int):NS × List Ev :=
 match x.1.fl.find? (fun q=>q.1 == k) with
 | none=>x
 | some q =>
  let S1:NS:={ x.1 with fl:=x.1.fl.filter fun r=>!(r.1 == k) }
  if (S1.fl.any fun r=>decide (r.2.map=q.2.map)) then (S1,x.2) else
  let c:=S1.tb.cls q.2.map
  ({ S1 with tb:=c.1 },if c.2.1 then x.2++[S1.ev q.2.map true] else x.2)
noncomputable def NS.tick (S:NS) (d:Int):Rp × NS :=
 if d < 1∨549755813888 - S.now < d then (bS 2,S) else
 let S1:NS:={ S with now:=S.now + d.toNat,ref:=min 4 (S.ref + min d.toNat 4) }
 let x:=(bj S.bb (S.now + d.toNat + 1)).foldl cj (S1,[])
 (⟨0,[],false,jD S.told x.2⟩,x.1.log x.2)
noncomputable def NS.step (S:NS) (a:Ac):Rp × NS :=
 if 300≤S.aF then (bS 6,S) else
 let S:NS:={ S with aF:=S.aF + 1 }
 if a.kind=1 then S.out a.frame a.draw else
 if a.kind=2 then S.aR a.frame else
 if a.kind=3 then S.tick a.n else
 if a.kind=4∨a.kind=5 then
  let d:=S.tb.aq.drain a.n (decide (a.kind=4))
  (bS d.2,if d.2=0 then { S with tb:={ S.tb with aq:=d.1 } } else S)
 else (bS 4,S)
def NS.new (loose:Bool):NS:=⟨⟨⟨List.replicate 18 0,List.replicate 3 false⟩,List.replicate 8 0,[]⟩,[],0,0,0,4,0,loose⟩
theorem Xk9 {h:List (Nat × Bk)} {n b:Nat} (hb:∀ q ∈ h,q.1≠b):Qc h n b=if b < n then .dead else .free:=by
 have:=Xn (h:=[]) (n:=n) (j:=b) hb
 rw[List.append_nil]at this
 rw[this];rfl
section
variable {h h0 h1 ex ex':List (Nat × Bk)} {m n n' b:Nat}
theorem HL.hi (H:HL h m) (n b:Nat) (hb:m≤b):Qc h n b=if b < n then .dead else .free:=Xk9 fun q hq e=>by have:=(H.mem q hq).1;omega
theorem HL.lo (H:HL h m) (hb:b < m) (n:Nat):Qc h n b=Qc h m b:=(H.live hb n).1
theorem HL.nm (H:HL h m) (hb:b < m):bJ m (Qc h m b):=by
 obtain ⟨_,q,hq,_,e⟩:=H.live hb m
 rw[e];exact (H.mem q hq).2
theorem HL.lv (H:HL h m) (hb:b < m):(Qc h m b).live:=Xj (H.nm hb)
theorem HL.lives (H:HL h m):∀ q ∈ h,q.2.live:=fun q hq=>Xj (H.mem q hq).2
theorem HL.more (H:HL h m) {x:Bk} (hx:bJ (m + 1) x):HL ((m,x)::h) (m + 1) where
 mem q hq:=by
  rcases List.mem_cons.1 hq with rfl|hq
  ·exact ⟨Nat.lt_succ_self _,hx⟩
  ·exact ⟨by have:=(H.mem q hq).1;omega,oT (Nat.le_succ m) (H.mem q hq).2⟩
 fN b hb:=by
  by_cases e:b=m
  ·exact ⟨_,List.mem_cons_self,e.symm⟩
  ·obtain ⟨q,hq,e2⟩:=H.fN b af
   exact ⟨q,List.mem_cons_of_mem _ hq,e2⟩
 self q hq:=by
  rcases List.mem_cons.1 hq with rfl|hq
  ·rw[Qd,if_pos rfl]
  ·have:=(H.mem q hq).1
   rw[Qd,if_neg af,H.lo this,H.self q hq]
theorem To.lY {p:List Nat} {t t':List (Nat × AV)} (ρ:Nat→Nat) (H:HL h m) (hp:∀ b ∈ p,ρ b=b∧b < m) (bU:∀ b b',b < m→b' < m→ρ b=ρ b'→b=b') (hl:∀ b,b < m→Qc h0 n (ρ b)=Xg ρ (Qc h m b)) (ht:Qy ρ m t t'):To p ⟨t,h0,n⟩ ⟨t',h,m⟩:=by
 refine To.lk ρ hp (fun b di=>?_) (fun b hb lC=>(lC (H.lv hb)).elim) (fun b hb=>(H.hi m b hb).trans (if_neg (by have hb:m≤b:=hb;show ¬ b < m;omega))) (fun b b' hb bL _ _ e=>bU b b' hb bL e) (fun b hb di=>⟨H.nm hb,hl b hb⟩) ht
 by_cases hb:b < m
 ·exact hb
 ·have di:(Qc h m b).live:=di
  rw[H.hi m b af,if_neg hb]at di
  exact di.elim
theorem To.drop {p:List Nat} {t t':List (Nat × AV)} (H:HL h m) (hex:∀ q ∈ ex,m≤q.1) (hp:∀ b ∈ p,b < m) (ht:Qy id m t t'):To p ⟨t,ex++h,n⟩ ⟨t',h,m⟩ :=
 To.lY id H (fun b hb=>⟨rfl,hp b hb⟩) (fun b b' _ _ e=>e) (fun b hb=>by
  rw[Wg]
  show Qc (ex++h) n b=_
  rw[Xn fun q hq e=>by have:=hex q hq;omega,H.lo hb]) ht
theorem To.home {p:List Nat} {t t':List (Nat × AV)} {σ:Nat→Nat} (H:HL h m) (bU:∀ b b',b < m→b' < m→σ b=σ b'→b=b') (hex:∀ q ∈ ex,jM σ m q.1) (hp:∀ b ∈ p,σ b=b∧b < m) (ht:Qy σ m t t'):To p ⟨t,ex++Xc σ h,n⟩ ⟨t',h,m⟩ :=
 To.lY σ H hp bU (fun b hb=>by
  rw[Xn fun q hq e=>hex q hq b hb e.symm]
  exact Kb bU hb (fun q hq=>(H.mem q hq).1) (H.fN b hb)) ht
def lw (σ:Nat→Nat) (m b:Nat):Nat:=if b < m then σ b else b
theorem A2 {σ:Nat→Nat} (h:b < m):lw σ m b=σ b:=if_pos h
theorem DS {σ:Nat→Nat} (h:m≤b):lw σ m b=b:=if_neg (by omega)
theorem To.mid {p:List Nat} {t t':List (Nat × AV)} {σ:Nat→Nat} {k:Nat} (H:HL h m) (H':HL (ex'++h) k) (SY:m≤k) (ki:∀ q ∈ ex',m≤q.1) (bU:∀ b b',b < m→b' < m→σ b=σ b'→b=b') (hex:∀ q ∈ ex,jM σ m q.1) (ew:∀ b,b < m→∀ b',m≤b'→b' < k→σ b≠b')
  (hp:∀ b ∈ p,lw σ m b=b∧b < k) (hl:∀ b,m≤b→b < k→Qc (ex++Xc σ h) n b=Xg (lw σ m) (Qc (ex'++h) k b)) (ht:Qy (lw σ m) k t t'):To p ⟨t,ex++Xc σ h,n⟩ ⟨t',ex'++h,k⟩:=by
 refine To.lY (lw σ m) H' hp (fun b b' hb bL e=>?_) (fun b hb=>?_) ht
 ·by_cases h1:b < m<;>by_cases h2:b' < m
  ·rw[A2 h1,A2 h2]at e;exact bU _ _ h1 h2 e
  ·rw[A2 h1,DS af]at e;exact (ew b h1 b' af bL e).elim
  ·rw[DS af,A2 h2]at e;exact (ew b' h2 b af hb e.symm).elim
  ·rw[DS af,DS af]at e;exact e
 ·by_cases h1:b < m
  ·rw[A2 h1,Xn fun q hq e=>hex q hq b h1 e.symm,Kb bU h1 (fun q hq=>(H.mem q hq).1) (H.fN b h1),Xn fun q hq e=>by have:=ki q hq;omega,H.lo h1 k]
   exact Ko (g:=lw σ m) (fun b hb=>(A2 hb).symm) (H.nm h1)
  ·rw[DS af];exact hl b af hb
theorem Nn {f g:Nat→Nat} (H:HL h m) (e:∀ b,b < m→f b=g b):Xc f h=Xc g h:=by
 unfold Xc
 exact List.map_congr_left fun q hq=>by
  obtain ⟨h1,h2⟩:=H.mem q hq
  rw[e q.1 h1,Ko e h2]
end
theorem Yac {σ:Nat→Nat} {p:List Nat} {m n b':Nat} (hσ:∀ b,b < m→b ∈ p→σ b≠b') (bL:b' < n):∀ b,b < m→cD σ p n b≠b':=fun b hb e=>by
 by_cases h:b ∈ p
 ·rw[Wm h]at e;exact hσ b hb h e
 ·rw[Wr h]at e;omega
theorem U2 {m n b:Nat} (hb:b < m):cD id (List.range m) n b=b:=Wm (List.mem_range.2 hb)
section
variable {P:Program} {c:Cx} {h h1 ex:List (Nat × Bk)} {m n:Nat} {v:Bool} {d:Option Nat} {kk:PK} {f:FuncId} {xs:List TV} {args:List AV} {r:AV} {t:List (Nat × AV)} {r0:List bG} {K:St→Prop}
theorem yw {p:List Nat} (H:HL h m) (hn:m≤n) (hp:∀ b ∈ p,b < m) (hex:∀ q ∈ ex,m≤q.1∧q.1 < n) (hc:Qv none (aG c.gl (⟨t,ex++h,n⟩:St).fs xs)∧lR v f ((aG c.gl (⟨t,ex++h,n⟩:St).fs xs).map Qk)=some (f,args)∧ai m args) :
  oI c.gl xs v f args id p m t ex h n:=by
 refine ⟨fun b b' _ _ e=>e,fun b hb=>by show b < n;omega,H,hp,fun q hq=>⟨fun b hb e=>by have:=(hex q hq).1;have e:b=q.1:=e;omega,(hex q hq).2⟩,?_,?_,hc.2.2⟩
 ·rw[Jz];exact hc.1
 ·rw[Jz,Jy];exact hc.2.1
theorem DT (H1:HL h1 m) (hr:Qe m r):Jb t ex h1 id (List.range m) m n d r=St.bQ ⟨t,ex++h1,n + m⟩ d r:=by
 have e:aE (cD id (List.range m) n) r=r:=uI (n:=m) (fun b hb=>U2 hb) r hr
 unfold Jb
 rw[Nn H1 (f:=cD id (List.range m) n) (g:=id) fun b hb=>U2 hb,Jz,e]
theorem Ya (f:FuncId) (l:List AV):lR false f l=some (f,l):=rfl
theorem nX (hq:GD P c.gl f args h m (List.range m) r h1) (H:HL h m) (H1:HL h1 m) (hr:Qe m r) (hn:m≤n) (hex:∀ q ∈ ex,m≤q.1∧q.1 < n) (hk:kk=(bif v then .cX else .call f))
  (hc:Qv none (aG c.gl (⟨t,ex++h,n⟩:St).fs xs)∧lR v f ((aG c.gl (⟨t,ex++h,n⟩:St).fs xs).map Qk)=some (f,args)∧ai m args) (hx:XP P c r0 K (St.bQ ⟨t,ex++h1,n + m⟩ d r)):Yh P c (.pd d kk xs none) r0 K ⟨t,ex++h,n⟩:=by
 have:=Ld (d:=d) (r0:=r0) (K:=K) hq (yw (v:=v) H hn (fun b hb=>List.mem_range.1 hb) hex hc) hk H1 hr (by rw[DT H1 hr];exact hx)
 rw[Jz]at this;exact this
theorem Hk {p:List Nat} {anc:List Nat} {fs:List bn} (hq:GD P c.gl f args h m p r h1) (H:HL h m) (H1:HL h1 m) (hr:Qe m r) (hn:m≤n) (hp:∀ b ∈ p,b < m) (hex:∀ q ∈ ex,m≤q.1∧q.1 < n) (hk:kk=(bif v then .cX else .call f))
  (hc:Qv none (aG c.gl (⟨t,ex++h,n⟩:St).fs xs)∧lR v f ((aG c.gl (⟨t,ex++h,n⟩:St).fs xs).map Qk)=some (f,args)∧ai m args) (hx:XD P c anc r0 (⟨Xr xs,gO id m n,d.toList,gO id m n⟩::fs) K (Jb t ex h1 id p m n d r)):Zm P c anc (.pd d kk xs none) r0 fs K ⟨t,ex++h,n⟩:=by
 have:=F9 (d:=d) (anc:=anc) (fs:=fs) (r0:=r0) (K:=K) hq (yw (v:=v) H hn hp hex hc) hk H1 hr hx
 rw[Jz]at this;exact this
theorem pZ {p pp:List Nat} {s3:St} (a7:∀ q ∈ c.gh,q.1 ∈ pp) (hq:GD P c.gl f args h m p r h1) (H:HL h m) (H1:HL h1 m) (hr:Qe m r) (hn:m≤n) (hp:∀ b ∈ p,b < m) (hex:∀ q ∈ ex,m≤q.1∧q.1 < n) (hk:kk=(bif v then .cX else .call f))
  (hc:Qv none (aG c.gl (⟨t,ex++h,n⟩:St).fs xs)∧lR v f ((aG c.gl (⟨t,ex++h,n⟩:St).fs xs).map Qk)=some (f,args)∧ai m args) (gT:To pp (Jb t ex h1 id p m n d r) s3) (hx:XP P c r0 K s3):Yh P c (.pd d kk xs none) r0 K ⟨t,ex++h,n⟩:=by
 have aY:=yw (v:=v) H hn hp hex hc
 refine .inr fun ops io he g a w hR K' Q' hK=>?_
 have hA:=Ad (d:=d) hq aY hk H1 hr ops io he
 rw[Jz]at hA
 refine hA.step _ (fun _ _=>rfl) (fun _ _=>rfl) g a w hR K' Q' fun g2 a' w' bV=>?_
 rw[BE hA.bj hA.dc]at bV
 obtain ⟨g3,j8⟩:=gT c g2 a' w' a7 bV
 exact hK g3 s3 a' w' hx j8
end
def U3 (p q:Int × Fl):Prop:=p.2.map=q.2.map∧p.2.rem=q.2.rem∧p.2.rport=q.2.rport
structure NJ (S:NS):Prop where
 gt:GT S.tb
 wf:S.tb.wf
 ids:∀ q ∈ S.fl,1≤q.1∧q.1≤S.b7
 dP:S.fl.Pairwise fun p q=>p.1≠q.1
 len:S.fl.length≤48
 kj:∀ q ∈ S.fl,q.2.map ∈ S.tb.maps
 has:∀ m ∈ S.tb.maps,∃ q ∈ S.fl,q.2.map=m
 mS:S.fl.Pairwise fun p q=>¬ U3 p q
 now:S.now≤549755813888
 lJ:0≤S.b7
 ref:S.ref≤4
structure NI (S:NS):Prop extends NJ S where
 due:∀ q ∈ S.fl,(S.now:Int) < q.2.due∧q.2.due≤S.now + 60
theorem NJ.ok {S:NS} (h:NJ S):S.tb.ok:=h.gt.ok h.wf
theorem Hl (p s:Int):4≤Km p s∧Km p s≤60:=by
 unfold Km
 (repeat' split)<;>omega
theorem U4 (ae st sd du fl:Int) (cg:Bool) {now:Int} (h0:0≤now) (h1:now≤549755813888):(pf ae st sd du fl cg now).2.2=du∨∃ d,4≤d∧d≤60∧(pf ae st sd du fl cg now).2.2=now + d:=by
 have key:∀ x:Int × Int × Bool,(if x.2.2=true then IntKind.i64.wrap (now + Km ae x.1) else du)=du∨∃ d,4≤d∧d≤60∧(if x.2.2=true then IntKind.i64.wrap (now + Km ae x.1) else du)=now + d:=fun x=>by
  split
  ·right
   have:=Hl ae x.1
   refine ⟨Km ae x.1,this.1,this.2,?_⟩
   rw[IntKind.wrap_i64]
   omega
  ·exact .inl rfl
 exact key _
theorem NJ.begin {S:NS} (h:NJ S) {tb:Tb} (hg:GT tb) (hw:tb.wf) (ct:∀ m ∈ S.tb.maps,m ∈ tb.maps) {f:Fl} (b6:∀ m ∈ tb.maps,m ∈ S.tb.maps∨m=f.map) (aI:f.map ∈ tb.maps) (cd:∀ q ∈ S.fl,¬ (q.2.map=f.map∧q.2.rem=f.rem∧q.2.rport=f.rport)) (hl:S.fl.length < 48):NJ (({ S with tb:=tb }:NS).begin f) where
 gt:=hg
 wf:=hw
 ids q hq:=by
  have h0:=h.lJ
  rcases List.mem_append.1 hq with hq|hq
  ·have:=h.ids q hq
   show _∧q.1≤S.b7 + 1
   omega
  ·obtain rfl:=List.mem_singleton.1 hq
   show 1≤S.b7 + 1∧S.b7 + 1≤S.b7 + 1
   omega
 dP:=by
  refine List.pairwise_append.2 ⟨h.dP,by simp,fun p hp q hq=>?_⟩
  obtain rfl:=List.mem_singleton.1 hq
  have:=h.ids p hp
  show p.1≠S.b7 + 1
  omega
 len:=by
  show (S.fl++[_]).length≤48
  rw[List.length_append];simp;omega
 kj q hq:=by
  rcases List.mem_append.1 hq with hq|hq
  ·exact ct _ (h.kj q hq)
  ·obtain rfl:=List.mem_singleton.1 hq;exact aI
 has m hm:=by
  rcases b6 m hm with h1|rfl
  ·obtain ⟨q,hq,e⟩:=h.has m h1
   exact ⟨q,List.mem_append_left _ hq,e⟩
  ·exact ⟨_,List.mem_append_right _ (List.mem_singleton.2 rfl),rfl⟩
 mS:=by
  refine List.pairwise_append.2 ⟨h.mS,by simp,fun p hp q hq=>?_⟩
  obtain rfl:=List.mem_singleton.1 hq
  exact cd p hp
 now:=h.now
 lJ:=by have:=h.lJ;show 0≤S.b7 + 1;omega
 ref:=h.ref
theorem NI.begin {S:NS} (h:NI S) {tb:Tb} (hg:GT tb) (hw:tb.wf) (ct:∀ m ∈ S.tb.maps,m ∈ tb.maps) {f:Fl} (b6:∀ m ∈ tb.maps,m ∈ S.tb.maps∨m=f.map) (aI:f.map ∈ tb.maps) (cd:∀ q ∈ S.fl,¬ (q.2.map=f.map∧q.2.rem=f.rem∧q.2.rport=f.rport)) (hl:S.fl.length < 48):NI (({ S with tb:=tb }:NS).begin f) where
 toNJ:=h.toNJ.begin hg hw ct b6 aI cd hl
 due q hq:=by
  rcases List.mem_append.1 hq with hq|hq
  ·exact h.due q hq
  ·obtain rfl:=List.mem_singleton.1 hq
   have:=Hl f.map.ae f.st
   show (S.now:Int) < S.now + Km f.map.ae f.st∧(S.now:Int) + Km f.map.ae f.st≤S.now + 60
   omega
theorem No {S:NS} {k:Int} {p:Pk} {cg:Bool} {q:Int × Fl} (hq:q ∈ (S.goes k p cg).fl):∃ r ∈ S.fl,q.1=r.1∧q.2.map=r.2.map∧q.2.rem=r.2.rem∧q.2.rport=r.2.rport∧(q.2=r.2∨q.2=r.2.next p cg S.now):=by
 obtain ⟨r,hr,rfl⟩:=List.mem_map.1 hq
 refine ⟨r,hr,?_⟩
 split
 ·exact ⟨rfl,rfl,rfl,rfl,.inr rfl⟩
 ·exact ⟨rfl,rfl,rfl,rfl,.inl rfl⟩
theorem NI.goes {S:NS} (h:NI S) (k:Int) (p:Pk) (cg:Bool):NI (S.goes k p cg) where
 gt:=h.gt
 wf:=h.wf
 ids q hq:=by
  obtain ⟨r,hr,e,_⟩:=No hq
  rw[e];exact h.ids r hr
 dP:=by
  refine List.pairwise_map.2 (h.dP.imp fun {a b} Dv=>?_)
  (repeat' split)<;>exact Dv
 len:=by show (S.fl.map _).length≤48;rw[List.length_map];exact h.len
 kj q hq:=by
  obtain ⟨r,hr,_,e,_⟩:=No hq
  rw[e];exact h.kj r hr
 has m hm:=by
  obtain ⟨q,hq,e⟩:=h.has m hm
  refine ⟨_,List.mem_map.2 ⟨q,hq,rfl⟩,?_⟩
  split<;>exact e
 mS:=by
  refine List.pairwise_map.2 (h.mS.imp fun {a b} Dv=>?_)
  (repeat' split)<;>exact Dv
 now:=h.now
 lJ:=h.lJ
 ref:=h.ref
 due q hq:=by
  obtain ⟨r,hr,_,_,_,_,e⟩:=No hq
  have hd:=h.due r hr
  rcases e with e|e
  ·rw[e];exact hd
  ·rw[e]
   rcases U4 r.2.map.ae r.2.st r.2.side r.2.due p.flags cg (now:=S.now) af (by have:=h.now;omega) with e2|⟨d,h1,h2,e2⟩
   ·show (S.now:Int) < (pf _ _ _ _ _ _ _).2.2∧(pf _ _ _ _ _ _ _).2.2≤S.now + 60
    rw[e2];exact hd
   ·show (S.now:Int) < (pf _ _ _ _ _ _ _).2.2∧(pf _ _ _ _ _ _ _).2.2≤S.now + 60
    rw[e2];omega
theorem U5 {S:NS} {m:Mp} {r rp:Int} (h0:∀ q ∈ S.fl,1≤q.1) (h:S.findF m r rp=0):∀ q ∈ S.fl,¬ (q.2.map=m∧q.2.rem=r∧q.2.rport=rp):=by
 intro q hq ⟨e1,e2,e3⟩
 unfold NS.findF at h
 split at h
 ·rename_i x hx
  have:=h0 x (List.mem_of_find?_eq_some hx)
  omega
 ·rename_i hx
  have:=List.find?_eq_none.1 hx q hq
  simp[e1,e2,e3]at this
theorem NJ.cj {x:NS × List Ev} (h:NJ x.1) (k:Int):NJ (Proofs.YtogckmommodmhaaGreatDoor.cj x k).1:=by
 obtain ⟨S,es⟩:=x
 unfold Proofs.YtogckmommodmhaaGreatDoor.cj
 dsimp only at h ⊢
 cases hf:S.fl.find? (fun q=>q.1 == k) with
 | none=>exact h
 | some q =>
  have hq:=List.mem_of_find?_eq_some hf
  have hk:q.1=k:=by simpa using List.find?_some hf
  have ct:(S.fl.filter fun r=>!(r.1 == k)).Sublist S.fl:=List.filter_sublist
  have bI:∀ r,r ∈ (S.fl.filter fun r=>!(r.1 == k)) ↔ r ∈ S.fl∧r.1≠k:=fun r=>by simp
  dsimp only
  split
  ·rename_i pg
   obtain ⟨r,hr,er⟩:=List.any_eq_true.1 pg
   have er:r.2.map=q.2.map:=by simpa using er
   exact ⟨h.gt,h.wf,fun r hr=>h.ids r (ct.subset hr),h.dP.sublist ct,Nat.le_trans ct.length_le h.len,fun r hr=>h.kj r (ct.subset hr),fun m hm=>by
    obtain ⟨p,hp,e⟩:=h.has m hm
    by_cases mh:p.1=k
    ·have:p=q:=by
      have iT:=List.pairwise_iff_getElem.1 h.dP
      obtain ⟨i,hi,rfl⟩:=List.getElem_of_mem hp
      obtain ⟨j,hj,rfl⟩:=List.getElem_of_mem hq
      rcases Nat.lt_trichotomy i j with h1|h1|h1
      ·exact (iT i j hi hj h1 (by rw[mh,hk])).elim
      ·subst h1;rfl
      ·exact (iT j i hj hi h1 (by rw[mh,hk])).elim
     subst this
     exact ⟨r,hr,er.trans e⟩
    ·exact ⟨p,(bI p).2 ⟨hp,mh⟩,e⟩,h.mS.sublist ct,h.now,h.lJ,h.ref⟩
  ·rename_i pg
   obtain ⟨i,hi,Np,g1,g2,g3,g4⟩:=h.gt.cls h.wf (h.kj q hq)
   have cd:∀ r ∈ (S.fl.filter fun r=>!(r.1 == k)),r.2.map≠q.2.map:=fun r hr e=>pg (List.any_eq_true.2 ⟨r,hr,by simpa using e⟩)
   have AG:∀ o ∈ S.tb.maps.eraseIdx i,o≠q.2.map:=fun o ho e=>by
    have:=List.find?_eq_none.1 (Yfn h.gt Np) o ho
    rw[e]at this
    exact this (Tv _)
   exact ⟨g1,g2,fun r hr=>h.ids r (ct.subset hr),h.dP.sublist ct,Nat.le_trans ct.length_le h.len,fun r hr=>by
     rw[g3]
     obtain ⟨j,hj,e⟩:=List.getElem_of_mem (h.kj r (ct.subset hr))
     refine List.mem_eraseIdx_iff_getElem.2 ⟨j,hj,fun e2=>?_,e⟩
     subst e2
     rw[List.getElem?_eq_getElem hj]at Np
     exact cd r hr (e.symm.trans (Option.some.inj Np)),fun m hm=>by
     have jC:m ∈ S.tb.maps.eraseIdx i:=by rw[← g3];exact hm
     obtain ⟨p,hp,e⟩:=h.has m (List.mem_of_mem_eraseIdx jC)
     refine ⟨p,(bI p).2 ⟨hp,fun mh=>?_⟩,e⟩
     have:p=q:=by
      have iT:=List.pairwise_iff_getElem.1 h.dP
      obtain ⟨i,hi,rfl⟩:=List.getElem_of_mem hp
      obtain ⟨j,hj,rfl⟩:=List.getElem_of_mem hq
      rcases Nat.lt_trichotomy i j with h1|h1|h1
      ·exact (iT i j hi hj h1 (by rw[mh,hk])).elim
      ·subst h1;rfl
      ·exact (iT j i hj hi h1 (by rw[mh,hk])).elim
     subst this
     exact AG m jC e.symm,h.mS.sublist ct,h.now,h.lJ,h.ref⟩
def Fl.zero:List AV:=[.int .i64 0,.int .i64 0,.int .i64 0,.int .i64 0,.int .i64 0,.int .i64 0,.int .i64 0,.int .i64 0,.int .i64 0,.int .i64 0]
def fR (l:List (Int × Fl)):List (AV × AV):=l.map fun q=>(.int .i64 q.1,.agg q.2.enc)
theorem Wj:dk Tryz.prog 89 false [.int .i64] (.agg Fl.zero):=dk.mk' (by kernel_rfl)
structure NB (S:NS):Prop where
 wf:S.tb.wf
 ids:∀ q ∈ S.fl,1≤q.1∧q.1≤S.b7
 dP:S.fl.Pairwise fun p q=>p.1≠q.1
 now:S.now≤549755813888
 lJ:0≤S.b7
theorem NJ.nb {S:NS} (h:NJ S):NB S:=⟨h.wf,h.ids,h.dP,h.now,h.lJ⟩
theorem NB.rK {S:NS} (h:NB S) {tb:Tb} (hw:tb.wf):NB { S with tb:=tb }:=⟨hw,h.ids,h.dP,h.now,h.lJ⟩
def NS.tl (S:NS):List AV:=[.mp 68,.sl 1 69 0 S.fl.length S.fl.length,.int .i64 S.b7,.ptr 0 0,.int .i64 S.told,.int .i64 S.ref,.int .i64 S.aF,.bool S.loose]
def NS.cells (S:NS):List AV:=S.tb.enc++S.tl
def Qm (S:NS) (T:WT):List (Nat × Bk):=(67,.cells S.cells)::(68,.aC (fR S.fl) false)::(69,.cells (Qp S.keys))::T.hb
theorem NS.aS {S:NS} (h:S.tb.wf):S.cells.length=38:=by simp[NS.cells,NS.tl,Tb.aD h]
theorem NS.eZ {S:NS} (h:S.tb.wf):S.cells.take 30=S.tb.enc:=by
 unfold NS.cells
 rw[← Tb.aD h,List.take_left]
theorem NS.cG {S:NS} (h:S.tb.wf) (j:Nat):S.cells.getD (30 + j) .any=S.tl.getD j .any:=by
 unfold NS.cells
 rw[← Tb.aD h]
 simp[List.getD,List.getElem?_append_right]
theorem NS.dt {S:NS} (h:S.tb.wf) (j:Nat) (v:AV):S.cells.set (30 + j) v=S.tb.enc++S.tl.set j v:=by
 unfold NS.cells
 rw[List.set_append,if_neg (by rw[Tb.aD h];omega),Tb.aD h,Nat.add_sub_cancel_left]
theorem NS.fa {S:NS} (h:S.tb.wf):S.cells.getD 30 .any=.mp 68:=NS.cG h 0
theorem NS.jE {S:NS} (h:S.tb.wf):S.cells.getD 31 .any=.sl 1 69 0 S.fl.length S.fl.length:=NS.cG h 1
theorem NS.Hm {S:NS} (h:S.tb.wf):S.cells.getD 32 .any=.int .i64 S.b7:=NS.cG h 2
theorem NS.gZ {S:NS} (h:S.tb.wf):S.cells.getD 33 .any=.ptr 0 0:=NS.cG h 3
theorem NS.rL {S:NS} (h:S.tb.wf):S.cells.getD 34 .any=.int .i64 S.told:=NS.cG h 4
theorem NS.uQ {S:NS} (h:S.tb.wf):S.cells.getD 35 .any=.int .i64 S.ref:=NS.cG h 5
theorem NS.fg {S:NS} (h:S.tb.wf):S.cells.getD 36 .any=.int .i64 S.aF:=NS.cG h 6
theorem NS.uR {S:NS} (h:S.tb.wf):S.cells.getD 37 .any=.bool S.loose:=NS.cG h 7
theorem U6 (n:Nat) (l:List (Int × Fl)):∀ q ∈ fR l,Qe n q.1∧Qe n q.2:=fun q hq=>by
 obtain ⟨t,_,rfl⟩:=List.mem_map.1 hq
 simp[Qe,ai,Fl.enc,Wf]
theorem NS.rM (S:NS):ai 70 S.cells:=by
 simp[NS.cells,NS.tl,zH,Tb.b9,ai,Qe]
theorem Qj {S:NS} {T:WT} (hT:T.wf):HL (Qm S T) 70 where
 mem q hq:=by
  rcases List.mem_cons.1 hq with rfl|hq
  ·exact ⟨(by decide:67 < 70),NS.rM S⟩
  rcases List.mem_cons.1 hq with rfl|hq
  ·exact ⟨(by decide:68 < 70),U6 70 _⟩
  rcases List.mem_cons.1 hq with rfl|hq
  ·exact ⟨(by decide:69 < 70),by simp[bJ,pW]⟩
  ·have:=(WT.gR hT).mem q hq
   exact ⟨by omega,oT aP this.2⟩
 fN b hb:=by
  by_cases h:b < 67
  ·obtain ⟨q,hq,e⟩:=(WT.gR hT).fN b h
   exact ⟨q,by simp[Qm,hq],e⟩
  ·rcases (by omega:b=67∨b=68∨b=69) with rfl|rfl|rfl
   ·exact ⟨_,List.mem_cons_self,rfl⟩
   ·exact ⟨_,List.mem_cons_of_mem _ List.mem_cons_self,rfl⟩
   ·exact ⟨_,List.mem_cons_of_mem _ (List.mem_cons_of_mem _ List.mem_cons_self),rfl⟩
 self q hq:=by
  unfold Qm
  rcases List.mem_cons.1 hq with rfl|hq
  ·rfl
  rcases List.mem_cons.1 hq with rfl|hq
  ·rfl
  rcases List.mem_cons.1 hq with rfl|hq
  ·rfl
  ·have h1:=((WT.gR hT).mem q hq).1
   rw[Qd,if_neg af,Qd,if_neg af,Qd,if_neg af,((WT.gR hT).live h1 70).1]
   exact (WT.gR hT).self q hq
theorem yx:FT Tryz.prog 20 Tryz.f20 (aQ Tryz.prog Tryz.f20) [.cell 4 (.ag 4)]:=.of Tryz.func20
theorem Xnt:FT Tryz.prog 23 Tryz.f23 (aQ Tryz.prog Tryz.f23) [.cell 2 (.ag 30)]:=.of Tryz.func23
theorem U7:FT Tryz.prog 24 Tryz.f24 (aQ Tryz.prog Tryz.f24) [.t 2]:=.of Tryz.func24
theorem U8:FT Tryz.prog 86 Tryz.f86 (aQ Tryz.prog Tryz.f86) [.t 8]:=.of Tryz.func86
theorem Xgb:FT Tryz.prog 88 Tryz.f88 (aQ Tryz.prog Tryz.f88) [.cell 6 (.ag 4)]:=.of Tryz.func88
theorem Xo0:FT Tryz.prog 90 Tryz.f90 (aQ Tryz.prog Tryz.f90) [.t 6]:=.of Tryz.func90
theorem Xn6:FT Tryz.prog 91 Tryz.f91 (aQ Tryz.prog Tryz.f91) []:=.of Tryz.func91
theorem U9:FT Tryz.prog 93 Tryz.f93 (aQ Tryz.prog Tryz.f93) []:=.of Tryz.func93
theorem Xz8:FT Tryz.prog 95 Tryz.f95 (aQ Tryz.prog Tryz.f95) [.t 4]:=.of Tryz.func95
theorem Yb1:FT Tryz.prog 97 Tryz.f97 (aQ Tryz.prog Tryz.f97) [.t 5]:=.of Tryz.func97
theorem Xk6:FT Tryz.prog 100 Tryz.f100 (aQ Tryz.prog Tryz.f100) [.t 3]:=.of Tryz.func100
theorem Xqg:FT Tryz.prog 101 Tryz.f101 (aQ Tryz.prog Tryz.f101) [.t 4]:=.of Tryz.func101
theorem Xxq:FT Tryz.prog 58 Tryz.f58 (aQ Tryz.prog Tryz.f58) [.cell 4 (.ag 4)]:=.of Tryz.func58
theorem Ydt:FT Tryz.prog 59 Tryz.f59 (aQ Tryz.prog Tryz.f59) [.cell 4 (.ag 4)]:=.of Tryz.func59
theorem Nq:FT Tryz.prog 60 Tryz.f60 (aQ Tryz.prog Tryz.f60) [.cell 4 (.ag 4)]:=.of Tryz.func60
theorem Xyb:FT Tryz.prog 28 Tryz.f28 (aQ Tryz.prog Tryz.f28) [.t 2]:=.of Tryz.func28
theorem Yal:FT Tryz.prog 96 Tryz.f96 (aQ Tryz.prog Tryz.f96) [.t 4]:=.of Tryz.func96
theorem Hn:FT Tryz.prog 136 Tryz.f136 (aQ Tryz.prog Tryz.f136) [.t 4]:=.of Tryz.func136
theorem Va:FT Tryz.prog 99 Tryz.f99 (aQ Tryz.prog Tryz.f99) [.t 4]:=.of Tryz.func99
theorem yy (l:List (Int × Fl)):xj false [.int .i64] (fR l):=fun q hq=>by
 obtain ⟨t,_,rfl⟩:=List.mem_map.1 hq
 rfl
theorem Ho (l:List (Int × Fl)) (x:Int):iy (fR l) (.int .i64 x)=l.findIdx? fun q=>q.1 == x:=by
 unfold iy fR
 induction l with
 | nil=>rfl
 | cons t D ih =>
  simp only[List.map_cons,List.findIdx?_cons]
  rw[ih]
  by_cases h:t.1=x
  ·simp[h]
  ·simp[h]
theorem Nr {l:List (Int × Fl)} (hd:l.Pairwise fun p q=>p.1≠q.1) {i:Nat} (hi:i < l.length):l.findIdx? (fun q=>q.1 == l[i].1)=some i:=by
 rw[List.findIdx?_eq_some_iff_getElem]
 refine ⟨hi,by simp,fun j hj=>?_⟩
 have:=(List.pairwise_iff_getElem.1 hd) j i af hi hj
 simpa using this
theorem Ns {l:List (Int × Fl)} (hd:l.Pairwise fun p q=>p.1≠q.1) {i:Nat} (hi:i < l.length) (z:AV):nt (fR l) (.int .i64 l[i].1) z=.agg l[i].2.enc:=by
 unfold nt
 rw[Ho,Nr hd hi]
 simp[fR,List.getD,hi]
theorem Xu5 {l:List (Int × Fl)} {x:Int} (h:∀ q ∈ l,q.1≠x) (f:Fl):nu (fR l) (.int .i64 x) (.agg f.enc)=fR (l++[(x,f)]):=by
 unfold nu
 rw[Ho,List.findIdx?_eq_none_iff.2 fun t ht=>by simpa using h t ht]
 simp[fR]
theorem Yae {l:List (Int × Fl)} (hd:l.Pairwise fun p q=>p.1≠q.1) {i:Nat} (hi:i < l.length) (f:Fl):nu (fR l) (.int .i64 l[i].1) (.agg f.enc)=fR (l.map fun q=>if q.1=l[i].1 then (q.1,f) else q):=by
 unfold nu
 rw[Ho,Nr hd hi]
 refine List.ext_getElem (by simp[fR]) fun j h1 h2=>?_
 have hj:j < l.length:=by simpa [fR] using h1
 simp only[fR,List.getElem_set,List.getElem_map]
 by_cases e:i=j
 ·subst e;simp
 ·rw[if_neg e,if_neg]
  intro e2
  have hp:=List.pairwise_iff_getElem.1 hd
  rcases Nat.lt_or_gt_of_ne e with h|h
  ·exact hp i j hi hj h e2.symm
  ·exact hp j i hj hi h e2
theorem Vb (S:NS) {i:Nat} (hi:i < S.fl.length):(Qp S.keys).getD i .any=.int .i64 S.fl[i].1:=by
 simp[Qp,NS.keys,List.getD,hi]
theorem DU (S:NS):(Qp S.keys).length=S.fl.length:=by simp[Qp,NS.keys]
theorem Xvx {S:NS} {m:Mp} {r rp:Int} {i:Nat} (hi:i < S.fl.length) (cd:∀ q ∈ S.fl.take i,¬ (q.2.map=m∧q.2.rem=r∧q.2.rport=rp)) (h:S.fl[i].2.map=m∧S.fl[i].2.rem=r∧S.fl[i].2.rport=rp):S.findF m r rp=S.fl[i].1:=by
 have hs:S.fl=S.fl.take i++S.fl[i]::S.fl.drop (i + 1):=by rw[← List.drop_eq_getElem_cons hi,List.take_append_drop]
 have hf:S.fl.find? (fun q=>decide (q.2.map=m) && q.2.rem == r && q.2.rport == rp)=some S.fl[i]:=by
  conv=>lhs;rw[hs]
  rw[List.find?_append,List.find?_eq_none.2 fun q hq=>by have:=cd q hq;simpa using this,List.find?_cons]
  simp[h.1,h.2.1,h.2.2]
 unfold NS.findF
 rw[hf]
theorem Xeu {S:NS} {m:Mp} {r rp:Int} (cd:∀ q ∈ S.fl,¬ (q.2.map=m∧q.2.rem=r∧q.2.rport=rp)):S.findF m r rp=0:=by
 unfold NS.findF
 rw[List.find?_eq_none.2 fun q hq=>by have:=cd q hq;simpa using this]
theorem Yp {S:NS} {T:WT} (hT:T.wf) (n b:Nat) (hb:70≤b):Qc (Qm S T) n b=if b < n then .dead else .free:=by
 unfold Qm
 rw[Qd,if_neg af,Qd,if_neg af,Qd,if_neg af,WT.oU hT n b af]
theorem Kq (S:NS) (T:WT) (n:Nat):Qc (Qm S T) n 67=.cells S.cells:=rfl
theorem wi (S:NS) (T:WT) (n:Nat):Qc (Qm S T) n 68=.aC (fR S.fl) false:=rfl
theorem wj (S:NS) (T:WT) (n:Nat):Qc (Qm S T) n 69=.cells (Qp S.keys):=rfl
theorem Zx {S:NS} {T:WT} (hT:T.wf):∀ q ∈ Qm S T,q.2.live:=fun q hq=>Xj ((Qj hT).mem q hq).2
theorem To.iZ {p:List Nat} {t t':List (Nat × AV)} {ex:List (Nat × Bk)} {S:NS} {T:WT} {n:Nat} (hT:T.wf) (hex:∀ q ∈ ex,70≤q.1) (hp:∀ b ∈ p,b < 70) (ht:Qy id 70 t t'):To p ⟨t,ex++Qm S T,n⟩ ⟨t',Qm S T,70⟩:=by
 have fw:∀ b,b < 70→Qc (ex++Qm S T) n b=Qc (Qm S T) 70 b:=fun b hb=>by
  rw[Xn fun q hq e=>by have:=hex q hq;omega]
  exact ((Qj hT).live hb n).1
 refine To.lk id (fun b hb=>⟨rfl,hp b hb⟩) (fun b di=>?_) (fun b hb lC=>?_) (fun b hb=>Yp hT 70 b hb |>.trans (if_neg (by have hb:70≤b:=hb;omega))) (fun b b' _ _ _ _ e=>e) (fun b hb di=>?_) ht
 ·by_cases h:b < 70
  ·exact h
  ·have di:(Qc (Qm S T) 70 b).live:=di
   rw[Yp hT 70 b af,if_neg h]at di
   exact di.elim
 ·obtain ⟨_,q,hq,_,e⟩:=(Qj (S:=S) hT).live hb 70
  exact (lC (by show (Qc (Qm S T) 70 b).live;rw[e];exact Xj ((Qj hT).mem q hq).2)).elim
 ·obtain ⟨_,q,hq,_,e⟩:=(Qj (S:=S) hT).live hb 70
  refine ⟨?_,?_⟩
  ·show bJ 70 (Qc (Qm S T) 70 b)
   rw[e];exact ((Qj hT).mem q hq).2
  ·show Qc (ex++Qm S T) n b=Xg id (Qc (Qm S T) 70 b)
   rw[fw b hb,Wg]
theorem To.rN {p:List Nat} {t t':List (Nat × AV)} {ex:List (Nat × Bk)} {S:NS} {T:WT} {x:Bk} {n:Nat} (hT:T.wf) (hex:∀ q ∈ ex,71≤q.1) (hx:bJ 70 x) (hp:∀ b ∈ p,b < 70) (ht:Qy id 71 t t'):To p ⟨t,ex++(70,x)::Qm S T,n⟩ ⟨t',(70,x)::Qm S T,71⟩:=by
 have hl:∀ b,b < 70→Qc ((70,x)::Qm S T) 71 b=Qc (Qm S T) 70 b:=fun b hb=>by
  rw[Qd,if_neg af]
  exact ((Qj hT).live hb 71).1
 have Vc:Qc ((70,x)::Qm S T) 71 70=x:=by rw[Qd,if_pos rfl]
 have hs:∀ b,b < 71→Qc (ex++(70,x)::Qm S T) n b=Qc ((70,x)::Qm S T) 71 b:=fun b hb=>by
  rw[Xn fun q hq e=>by have:=hex q hq;omega]
  by_cases h:b=70
  ·subst h;rw[Vc,Qd,if_pos rfl]
  ·rw[hl b af,Qd,if_neg af]
   exact ((Qj hT).live af n).1
 have km:∀ b,b < 71→(Qc ((70,x)::Qm S T) 71 b).live∧bJ 70 (Qc ((70,x)::Qm S T) 71 b):=fun b hb=>by
  by_cases h:b=70
  ·subst h;rw[Vc];exact ⟨Xj hx,hx⟩
  ·rw[hl b af]
   obtain ⟨_,q,hq,_,e⟩:=(Qj (S:=S) hT).live (show b < 70 by omega) 70
   rw[e]
   have:=((Qj hT).mem q hq).2
   exact ⟨Xj this,this⟩
 have nB:∀ b,71≤b→Qc ((70,x)::Qm S T) 71 b=.free:=fun b hb=>by
  rw[Qd,if_neg af,Yp hT 71 b af,if_neg af]
 refine To.lk id (fun b hb=>⟨rfl,by have:=hp b hb;show b < 71;omega⟩) (fun b di=>?_) (fun b hb lC=>(lC (km b hb).1).elim) (fun b hb=>nB b hb) (fun b b' _ _ _ _ e=>e) (fun b hb di=>⟨oT (show 70≤71 by decide) (km b hb).2,by show Qc (ex++(70,x)::Qm S T) n b=Xg id (Qc ((70,x)::Qm S T) 71 b);rw[hs b hb,Wg]⟩) ht
 by_cases h:b < 71
 ·exact h
 ·have di:(Qc ((70,x)::Qm S T) 71 b).live:=di
  rw[nB b af]at di
  exact di.elim
set_option maxHeartbeats 4000000 in
set_option maxRecDepth 20000 in
theorem Vd (gl:Nat→AV) (S:NS) (T:WT) (hS:NJ S) (hT:T.wf) (m:Mp) (r rp:Int):GD Tryz.prog gl 86 [.ptr 67 0,.agg m.enc,.int .i64 r,.int .i64 rp] (Qm S T) 70 (List.range 70) (.int .i64 (S.findF m r rp)) (Qm S T):=by
 refine U8.gq (of_decide_eq_true rfl) (Zx hT) (fun b hb=>List.mem_range.1 hb) fun c a7 hg=>?_
 conv in aQ _ _=>cbv
 have aM:=fun n b hb=>Yp (S:=S) hT n b hb
 have bH:=Kq S T
 have rO:=wi S T
 have wm:=wj S T
 have aX:=NS.aS hS.wf
 have fa:=NS.fa hS.wf
 have jE:=NS.jE hS.wf
 have iM:=DU S
 obtain ⟨mp,ms,mi,ma,mt⟩:=m
 unfold Mp.enc
 refine Qh (An @aM (An @bH (An @aX @jE))) ?_
 refine Yk (fun k:Nat=>k≤S.fl.length∧∀ q ∈ S.fl.take k,¬ (q.2.map=⟨mp,ms,mi,ma,mt⟩∧q.2.rem=r∧q.2.rport=rp)) (fun k=>⟨[(0,.ptr 67 0),(2,.int .i64 r),(3,.int .i64 rp),(5,.ptr 70 0),(15,.sl 1 69 0 S.fl.length S.fl.length),(16,.int .i64 S.fl.length),(17,.int .i64 k)],(70,.cells [.int .i64 mp,.int .i64 ms,.int .i64 mi,.int .i64 ma,.int .i64 mt])::Qm S T,71⟩) (fun k=>S.fl.length - k) U8.mixed (List.range 70) a7
  ⟨0,⟨by omega,by simp⟩,To.dH (by exact Qw) fun b=>rfl⟩ fun k hk=>?_
 obtain ⟨hk,cd⟩:=hk
 have h48:=hS.len
 refine Qg ?_
 (refine Qa (fun h1=>?_) (fun h1=>?_)<;>try exact h1.elim)
 ·have bF:k < S.fl.length:=by omega
  have kn:=Vb S bF
  have dT:=Ns hS.dP bF (.agg Fl.zero)
  have dK:=yy S.fl
  have dI:=pU S.fl[k].1
  have Af:=Xvx (S:=S) (m:=⟨mp,ms,mi,ma,mt⟩) (r:=r) (rp:=rp) bF cd
  have wo:¬ (S.fl[k].2.map=⟨mp,ms,mi,ma,mt⟩∧S.fl[k].2.rem=r∧S.fl[k].2.rport=rp)→∀ q ∈ S.fl.take (k + 1),¬ (q.2.map=⟨mp,ms,mi,ma,mt⟩∧q.2.rem=r∧q.2.rport=rp):=fun h q hq=>by
   rw[List.take_succ,List.mem_append]at hq
   rcases hq with hq|hq
   ·exact cd q hq
   ·simp[bF]at hq;subst hq;exact h
  generalize S.fl[k]=q at *
  obtain ⟨x,⟨⟨p0,p1,p2,p3,p4⟩,g0,g1,g2,g3,g4⟩⟩:=q
  unfold Fl.enc Wf at dT
  dsimp only at dT Af wo kn dI
  have heq:=@Dg c false ⟨p0,p1,p2,p3,p4⟩ ⟨mp,ms,mi,ma,mt⟩
  unfold Mp.enc at heq
  dsimp only at heq
  refine Qh (An @wm (An @iM (An @kn (An @bH (An @aX @fa))))) ?_
  ((first|refine nv Wj ?_|refine Ud Wj ?_);(have au:=@rO;have aH:=@dK;have aV:=@dI;have bD:=@dT;have cC:=@aM;refine XG ?_;clear au aH aV bD cC;((try (repeat' with_reducible refine And.intro ?_ ?_));(try any_goals (first|refine zm ?_|exact CL|fail)))))
  by_cases hm:(⟨p0,p1,p2,p3,p4⟩:Mp)=⟨mp,ms,mi,ma,mt⟩
  ·rw[decide_eq_true hm]at heq
   by_cases hr:g0=r∧g1=rp
   ·have f1:(g0 == r)=true:=beq_iff_eq.2 hr.1
    have f2:(g1 == rp)=true:=beq_iff_eq.2 hr.2
    have e:=Af ⟨hm,hr.1,hr.2⟩
    refine Xf heq @aM ?_
    refine Qh (An @f1 @f2) ?_
    (refine Qa (fun h2=>?_) (fun h2=>?_)<;>try exact h2.elim)
    refine Qg ?_
    refine ⟨(),?_⟩
    rw[e]
    exact To.iZ (ex:=[(71,_),(71,_),(70,_)]) hT av (fun b hb=>List.mem_range.1 hb) (by simp[Qy,Qe,look,aE])
   ·have ym:=wo fun h=>hr ⟨h.2.1,h.2.2⟩
    by_cases h0:g0=r
    ·have f1:(g0 == r)=true:=beq_iff_eq.2 h0
     have f2:(g1 == rp)=false:=beq_eq_false_iff_ne.2 fun e=>hr ⟨h0,e⟩
     refine Xf heq @aM ?_
     refine Qh (An @f1 @f2) ?_
     (refine Qa (fun h2=>?_) (fun h2=>?_)<;>try exact h2.elim)
     refine Qg ?_
     exact ⟨k + 1,⟨by omega,ym⟩,To.rN (ex:=[(71,_),(71,_)]) hT av (by simp[bJ,ai,Qe]) (fun b hb=>List.mem_range.1 hb) (by simp[Qy,Qe,ai,look,aE]),by omega⟩
    ·have f1:(g0 == r)=false:=beq_eq_false_iff_ne.2 h0
     refine Xf heq @aM ?_
     refine Qh @f1 ?_
     (refine Qa (fun h2=>?_) (fun h2=>?_)<;>try exact h2.elim)
     refine Qg ?_
     exact ⟨k + 1,⟨by omega,ym⟩,To.rN (ex:=[(71,_),(71,_)]) hT av (by simp[bJ,ai,Qe]) (fun b hb=>List.mem_range.1 hb) (by simp[Qy,Qe,ai,look,aE]),by omega⟩
  ·have ym:=wo fun h=>hm h.1
   rw[decide_eq_false hm]at heq
   refine Xf heq @aM ?_
   (refine Qa (fun h2=>?_) (fun h2=>?_)<;>try exact h2.elim)
   refine Qg ?_
   exact ⟨k + 1,⟨by omega,ym⟩,To.rN (ex:=[(71,_),(71,_)]) hT av (by simp[bJ,ai,Qe]) (fun b hb=>List.mem_range.1 hb) (by simp[Qy,Qe,ai,look,aE]),by omega⟩
 ·obtain rfl:k=S.fl.length:=by omega
  rw[List.take_length]at cd
  rw[Xeu cd]
  refine Qg ?_
  exact ⟨(),To.iZ (ex:=[(70,_)]) hT av (fun b hb=>List.mem_range.1 hb) (by simp[Qy,Qe,look,aE])⟩
theorem To.Nt {p:List Nat} {t t':List (Nat × AV)} {h:List (Nat × Bk)} {S:NS} {T:WT} {n:Nat} (ρ:Nat→Nat) (hT:T.wf) (hp:∀ b ∈ p,ρ b=b∧b < 70) (bU:∀ b b',b < 70→b' < 70→ρ b=ρ b'→b=b') (hl:∀ b,b < 70→Qc h n (ρ b)=Xg ρ (Qc (Qm S T) 70 b)) (ht:Qy ρ 70 t t'):To p ⟨t,h,n⟩ ⟨t',Qm S T,70⟩:=by
 refine To.lk ρ (fun b hb=>hp b hb) (fun b di=>?_) (fun b hb lC=>?_) (fun b hb=>Yp hT 70 b hb |>.trans (if_neg (by have hb:70≤b:=hb;omega))) (fun b b' hb bL _ _ e=>bU b b' hb bL e) (fun b hb di=>?_) ht
 ·by_cases h:b < 70
  ·exact h
  ·have di:(Qc (Qm S T) 70 b).live:=di
   rw[Yp hT 70 b af,if_neg h]at di
   exact di.elim
 ·obtain ⟨_,q,hq,_,e⟩:=(Qj (S:=S) hT).live hb 70
  exact (lC (by show (Qc (Qm S T) 70 b).live;rw[e];exact Xj ((Qj hT).mem q hq).2)).elim
 ·obtain ⟨_,q,hq,_,e⟩:=(Qj (S:=S) hT).live hb 70
  refine ⟨?_,hl b hb⟩
  show bJ 70 (Qc (Qm S T) 70 b)
  rw[e];exact ((Qj hT).mem q hq).2
theorem Ve {S S':NS} {T:WT} {ex:List (Nat × Bk)} {n:Nat} (iJ:S'.fl=S.fl) (hex:∀ q ∈ ex,70≤q.1∨q=(67,Bk.cells S'.cells)) (bH:Qc (ex++Qm S T) n 67=.cells S'.cells) (hT:T.wf):∀ b,b < 70→Qc (ex++Qm S T) n (id b)=Xg id (Qc (Qm S' T) 70 b):=fun b hb=>by
 rw[Wg]
 show Qc (ex++Qm S T) n b=_
 by_cases h:b=67
 ·subst h;rw[bH];rfl
 ·rw[Xn fun q hq e=>(hex q hq).elim (fun h1=>by omega) fun h1=>h (by rw[h1]at e;exact e.symm),((Qj (S:=S) hT).live hb n).1]
  unfold Qm NS.keys
  rw[iJ]
  simp only[Qd]
  (repeat' split)<;>first|rfl|omega
theorem NS.DV {S:NS} (h:S.tb.wf) (v:Nat):S.cells.set 35 (.int .i64 v)=({ S with ref:=v }:NS).cells:=NS.dt h 5 _
set_option maxHeartbeats 2000000 in
theorem Vf (gl:Nat→AV) (S:NS) (T:WT) (hS:NJ S) (hT:T.wf) (f:List UInt8) (hf:f.length≤140737488351232) (e:Int):GD Tryz.prog gl 88 [.ptr 67 0,.str f,.int .i64 e] (Qm S T) 70 (List.range 70) (.agg (S.refuse f e).1.enc) (Qm (S.refuse f e).2 T):=by
 refine Xgb.gq (of_decide_eq_true rfl) (Zx hT) (fun b hb=>List.mem_range.1 hb) fun c a7 hg=>?_
 conv in aQ _ _=>cbv
 have aM:=fun n b hb=>Yp (S:=S) hT n b hb
 have bH:=Kq S T
 have aX:=NS.aS hS.wf
 have uQ:=NS.uQ hS.wf
 have hR:=Xmy c.gl f S.ref hf
 have hr4:=hS.ref
 unfold NS.refuse
 refine Qh (An @aM (An @bH (An @aX @uQ))) ?_
 (refine Qa (fun h1=>?_) (fun h1=>?_)<;>try exact h1.elim)
 ·rw[if_pos (.inl af)]
  unfold bS Rp.enc
  refine Qh @aM ?_
  exact ⟨(),To.iZ (ex:=[(70,_),(70,_)]) hT av (fun b hb=>List.mem_range.1 hb) (by simp[Qy,Qe,ai,look,aE,az])⟩
 by_cases he:bY f=0
 ·unfold sU at hR
  rw[if_neg af,if_neg af]at hR
  rw[if_neg af]
  have Nu:=NS.DV hS.wf (S.ref - 1)
  have ct:(S.ref:Int) - 1=((S.ref - 1:Nat):Int):=by omega
  unfold Rp.enc
  refine Qh (An @aM (An @bH (An @aX @uQ))) ?_
  refine Jj hR ?_
  refine Qg ?_
  (refine Qa (fun h2=>?_) (fun h2=>?_)<;>try exact h2.elim)
  refine Qh (An @aM (An @bH (An @aX (An @uQ (An @ct @Nu))))) ?_
  exact ⟨(),To.Nt id hT (fun b hb=>⟨rfl,List.mem_range.1 hb⟩) (fun b b' _ _ e=>e) (Ve (S':={ S with ref:=S.ref - 1 }) (ex:=[(70,_),(67,_),(70,_)]) rfl av rfl hT) (by simp[Qy,Qe,ai,look,aE,az])⟩
 ·have bV:sU f S.ref=.aU [.str [],.int .i64 (bY f)]:=if_pos he
  rw[bV]at hR
  rw[if_pos (.inr he)]
  unfold bS Rp.enc
  refine Qh (An @aM (An @bH (An @aX @uQ))) ?_
  refine Jj hR ?_
  refine Qg ?_
  (refine Qa (fun h2=>?_) (fun h2=>?_)<;>try exact h2.elim)
  ·refine Qh @aM ?_
   exact ⟨(),To.iZ (ex:=[(70,_),(70,_)]) hT av (fun b hb=>List.mem_range.1 hb) (by simp[Qy,Qe,ai,look,aE,az])⟩
  ·exact absurd h2 he
theorem NS.s34 {S:NS} (h:S.tb.wf) (v:Nat):S.cells.set 34 (.int .i64 v)=({ S with told:=v }:NS).cells:=NS.dt h 4 _
set_option maxHeartbeats 2000000 in
theorem Vg (gl:Nat→AV) (h0:gl 0=.xp (Qp Xo) 0) (S:NS) (T:WT) (hS:NJ S) (hT:T.wf) (wq:S.told≤100000) (l:List Ev) (hl:l.length≤64) (ha:∀ e ∈ l,Zo e.t e.s e.a e.b=true∧e.t=(l.headD ⟨0,0,0,0,false⟩).t) :
  GD Tryz.prog gl 95 [.ptr 67 0,.isl l.length (Yr l)] (Qm S T) 70 (List.range 70) (.str (jD S.told l)) (Qm (S.log l) T):=by
 refine Xz8.gq (of_decide_eq_true rfl) (Zx hT) (fun b hb=>List.mem_range.1 hb) fun c a7 hg=>?_
 conv in aQ _ _=>cbv
 have aM:=fun n b hb=>Yp (S:=S) hT n b hb
 have bH:=Kq S T
 have aX:=NS.aS hS.wf
 have rL:=NS.rL hS.wf
 have Nv:=Ru c.gl (by rw[hg];exact h0) 0
 unfold kB at Nv
 rw[if_pos af]at Nv
 refine Qg ?_
 (refine Qa (fun h1=>?_) (fun h1=>?_)<;>try exact h1.elim)
 ·obtain rfl:l=[]:=List.eq_nil_of_length_eq_zero af
  refine Qg ?_
  exact ⟨(),To.iZ (ex:=[]) hT av (fun b hb=>List.mem_range.1 hb) (by simp[Qy,Qe,ai,look,aE,az,jD])⟩
 cases l with
 | nil=>simp at h1
 | cons e l =>
  have hM:=Xh7 c.gl S.told (e::l) af
  have b8:wc e.t (e::l)=true:=by
   unfold wc
   rw[List.all_eq_true]
   intro x hx
   obtain ⟨g1,g2⟩:=ha x hx
   have g2:x.t=e.t:=g2
   rw[g1,g2];simp
  have gF:¬ 64 < l.length + 1:=by simp at hl;omega
  unfold we at hM
  dsimp only at hM
  rw[if_neg gF,if_pos b8]at hM
  unfold kB at hM
  rw[if_pos af]at hM
  have rP:=NS.s34 hS.wf (S.told + (e::l).length)
  have dy:(S.told:Int) + ((e::l).length:Nat)=((S.told + (e::l).length:Nat):Int):=by omega
  have mT:jD S.told (e::l)=(if S.told=0 then Yq 0 0 2 (Kc 6) else [])++Yq S.told e.t 300 (Kx (e::l)):=rfl
  rw[mT]
  have lC:(e::l).length=l.length + 1:=rfl
  have hB:(Kx (e::l)).length≤1400:=by rw[A0];omega
  have hE:=fun n=>Up n (e::l)
  simp only[List.length_cons]at hM rP dy ⊢
  clear lC
  generalize Yr (e::l)=E at *
  generalize Kx (e::l)=B at *
  have Vh:(Yq S.told e.t 300 B).length≤100000:=by
   simp[Yq,Qi];omega
  generalize Yq S.told e.t 300 B=MB at *
  have Vi:(Yq 0 0 2 (Kc 6)).length≤100000:=by decide +kernel
  generalize Yq 0 0 2 (Kc 6)=TB at *
  have oC:∀ (t:List (Nat × AV)) (ex:List (Nat × Bk)) (n:Nat) (r:List UInt8),70≤n→To (List.range 70) ⟨[(0,.str r)],(67,.cells ({ S with told:=S.told + (l.length + 1) }:NS).cells)::Qm S T,70⟩ ⟨[(0,.str r)],Qm (S.log (e::l)) T,70⟩:=fun t ex n r hn =>
   To.Nt id hT (fun b hb=>⟨rfl,List.mem_range.1 hb⟩) (fun b b' _ _ e=>e) (Ve (S':=S.log (e::l)) (ex:=[(67,_)]) rfl (by simp[NS.log]) rfl hT) (by simp[Qy,Qe,look,aE])
  by_cases hz:S.told=0
  ·rw[if_pos hz]
   refine Qh (An @bH (An @aX (An @rL @hE))) ?_
   (refine Qa (fun h2=>?_) (fun h2=>?_)<;>try exact h2.elim)
   ·refine Qg ?_
    refine Xf Nv (An @bH (An @aX @rL)) ?_
    refine Qh (An @bH (An @aX (An @rL @hE))) ?_
    refine Xf hM (An @hE (An @bH (An @aX (An @rL (An @dy (An @rP (An @Vh @Vi))))))) ?_
    refine Qh (An @bH (An @aX (An @rL (An @dy (An @rP @hE))))) ?_
    exact ⟨(),oC [] [] 70 _ af⟩
   ·exact absurd hz af
  ·rw[if_neg hz]
   refine Qh (An @bH (An @aX (An @rL @hE))) ?_
   (refine Qa (fun h2=>?_) (fun h2=>?_)<;>try exact h2.elim)
   ·exact absurd h2 af
   ·refine Qh (An @bH (An @aX (An @rL @hE))) ?_
    refine Xf hM (An @hE (An @bH (An @aX (An @rL (An @dy (An @rP (An @Vh @Vi))))))) ?_
    refine Qh (An @bH (An @aX (An @rL (An @dy (An @rP @hE))))) ?_
    exact ⟨(),oC [] [] 70 _ af⟩
section
variable {P:Program} {c:Cx}
theorem Nw {d:Option Nat} {f:FuncId} {xs:List TV} {args:List AV} {T:WT} {n:Nat} {r:AV} {t:List (Nat × AV)} {ex:List (Nat × Bk)} {r0:List bG} {K:St→Prop} (hq:GD P c.gl f args T.hb 67 (List.range 67) r T.hb) (hT:T.wf) (hn:67≤n) (hex:∀ q ∈ ex,67≤q.1∧q.1 < n)
  (hc:Qv none (aG c.gl (⟨t,ex++T.hb,n⟩:St).fs xs)∧(aG c.gl (⟨t,ex++T.hb,n⟩:St).fs xs).map Qk=args∧ai 67 args) (hr:Qe 0 r) (h:XP P c r0 K (St.bQ ⟨t,ex++T.hb,n + 67⟩ d r)):Yh P c (.pd d (.call f) xs none) r0 K ⟨t,ex++T.hb,n⟩:=by
 have e:ex++T.hb=ex++Xc id T.hb:=by rw[Jz]
 rw[e]at hc h ⊢
 refine Ld (v:=false) hq (UW hT (fun b hb=>List.mem_range.1 hb) hn hex ⟨hc.1,?_,hc.2.2⟩) rfl (WT.gR hT) (by have:=oT (Nat.zero_le 67) (x:=.cells [r]) (by simpa [bJ,ai] using hr);simpa [bJ,ai] using this) (by rw[UX hT hr];exact h)
 rw[hc.2.1];rfl
end
section
variable {P:Program} {c:Cx}
theorem Hp {d:Option Nat} {f:FuncId} {xs:List TV} {args:List AV} {T:WT} {n:Nat} {r:AV} {t:List (Nat × AV)} {ex:List (Nat × Bk)} {anc:List Nat} {fs:List bn} {r0:List bG} {K:St→Prop} (hq:GD P c.gl f args T.hb 67 (List.range 67) r T.hb) (hT:T.wf) (hn:67≤n) (hex:∀ q ∈ ex,67≤q.1∧q.1 < n)
  (hc:Qv none (aG c.gl (⟨t,ex++T.hb,n⟩:St).fs xs)∧(aG c.gl (⟨t,ex++T.hb,n⟩:St).fs xs).map Qk=args∧ai 67 args) (hr:Qe 0 r) (h:XD P c anc r0 (⟨Xr xs,gO id 67 n,d.toList,gO id 67 n⟩::fs) K (St.bQ ⟨t,ex++T.hb,n + 67⟩ d r)):Zm P c anc (.pd d (.call f) xs none) r0 fs K ⟨t,ex++T.hb,n⟩:=by
 have e:ex++T.hb=ex++Xc id T.hb:=by rw[Jz]
 rw[e]at hc h ⊢
 refine F9 (v:=false) hq (UW hT (fun b hb=>List.mem_range.1 hb) hn hex ⟨hc.1,?_,hc.2.2⟩) rfl (WT.gR hT) (by have:=oT (Nat.zero_le 67) (x:=.cells [r]) (by simpa [bJ,ai] using hr);simpa [bJ,ai] using this) (by rw[UX hT hr];exact h)
 rw[hc.2.1];rfl
end
set_option maxHeartbeats 2000000 in
theorem Vj (gl:Nat→AV) (S:NS) (T:WT) (D:List Tm) (hS:NB S) (hW:WI T S.now D) (m:Mp) (hm:C5 m) (free:Bool):GD Tryz.prog gl 90 [.ptr 67 0,.agg m.enc,.bool free] (Qm S T) 70 (List.range 70) (.isl 1 (Yr [S.ev m free])) (Qm S T):=by
 have hT:=hW.wf
 refine Xo0.gq (of_decide_eq_true rfl) (Zx hT) (fun b hb=>List.mem_range.1 hb) fun c a7 hg=>?_
 conv in aQ _ _=>cbv
 have aM:=fun n b hb=>Yp (S:=S) hT n b hb
 have bH:=Kq S T
 have aX:=NS.aS hS.wf
 have gZ:=NS.gZ hS.wf
 have dO:=hW.fJ c.gl
 have hB:=C4 c.gl m.port hm.2.2.2.2
 unfold uv at hB
 obtain ⟨mp,ms,mi,ma,mt⟩:=m
 unfold NS.ev Mp.enc
 dsimp only at hB ⊢
 refine Qh @aM ?_
 refine Xf hB (An @aM (An @bH (An @aX @gZ))) ?_
 refine Hp (ex:=[(70,_),(67,_),(68,_),(69,_)]) dO hT aP av (by exact Qw) (by simp[Qe]) ?_
 refine Qg ?_
 have pj:=fun n b hb=>WT.oU hT n (b:=b) hb
 refine Jd (An @aM @pj) ?_
 refine Qh (An @aM @pj) ?_
 refine ⟨(),(To.fZ (b:=138) (i:=0) rfl rfl).trans (To.iZ (S:=S) (T:=T) (ex:=[(138,.dead),(138,_),(70,_)]) hT av (fun b hb=>List.mem_range.1 hb) ?_)⟩
 simp[Qy,Qe,ai,look,aE,az,Yr,Ev.enc]
theorem Yd8 {S:NS} {t:Tm} (h:t ∈ S.bb):∃ q ∈ S.fl,t.id=q.1∧t.due=q.2.due.toNat:=by
 obtain ⟨q,hq,rfl⟩:=List.mem_map.1 h
 exact ⟨q,hq,rfl,rfl⟩
theorem Xjw {S:NS} (h:NB S) (hl:S.fl.length < 48) {D:List Tm} (hD:D.Perm S.bb) (f:Fl) :
  yt S.now D (S.b7 + 1) (S.now + Km f.map.ae f.st)=(0,D++[⟨S.b7 + 1,(S.now + Km f.map.ae f.st).toNat⟩])∧List.Perm (D++[(⟨S.b7 + 1,(S.now + Km f.map.ae f.st).toNat⟩:Tm)]) (S.begin f).bb:=by
 have hb:=Hl f.map.ae f.st
 have hn:=h.now
 have hlen:D.length < 400:=by rw[hD.length_eq];simp[NS.bb];omega
 have bN:∀ t ∈ D,t.id≠S.b7 + 1:=fun t ht e=>by
  obtain ⟨q,hq,e1,_⟩:=Yd8 (hD.mem_iff.1 ht)
  have:=(h.ids q hq).2
  omega
 refine ⟨?_,?_⟩
 ·unfold yt
  rw[if_neg af,if_neg af]
  have e:Uf D (S.b7 + 1) (max (S.now + Km f.map.ae f.st).toNat S.now)=D++[⟨S.b7 + 1,(S.now + Km f.map.ae f.st).toNat⟩]:=by
   unfold Uf
   rw[GY bN,show max (S.now + Km f.map.ae f.st).toNat S.now=(S.now + Km f.map.ae f.st).toNat by omega]
  rw[e]
 ·have e:(S.begin f).bb=S.bb++[⟨S.b7 + 1,(S.now + Km f.map.ae f.st).toNat⟩]:=by
   simp[NS.bb,NS.begin]
  rw[e]
  exact hD.append_right _
def nr (σ:Nat→Nat) (k b:Nat):Nat:=if b < 67 then σ b else if b=69 then k else b
theorem Kw {σ:Nat→Nat} {k b:Nat} (h:b < 67):nr σ k b=σ b:=if_pos h
def NS.A3 (S:NS) (k w:Nat):List AV:=[.mp 68,.sl 1 k 0 S.fl.length S.fl.length,.int .i64 S.b7,.ptr w 0,.int .i64 S.told,.int .i64 S.ref,.int .i64 S.aF,.bool S.loose]
theorem NS.jX (S:NS) (ρ:Nat→Nat):az ρ S.cells=S.tb.enc++[.mp (ρ 68),.sl 1 (ρ 69) 0 S.fl.length S.fl.length,.int .i64 S.b7,.ptr (ρ 0) 0,.int .i64 S.told,.int .i64 S.ref,.int .i64 S.aF,.bool S.loose]:=by
 unfold NS.cells NS.tl
 rw[BT,Tb.da]
 simp[az,aE]
theorem Vk (ρ:Nat→Nat) (l:List (Int × Fl)):Xg ρ (.aC (fR l) false)=.aC (fR l) false:=by
 simp only[Xg]
 congr 1
 refine (List.map_congr_left fun q hq=>?_).trans (List.map_id _)
 obtain ⟨h1,h2⟩:=U6 0 l q hq
 show (aE ρ q.1,aE ρ q.2)=q
 rw[ti h1,ti h2]
theorem Vl (ρ:Nat→Nat) (l:List Int):Xg ρ (.cells (Qp l))=.cells (Qp l):=by
 simp only[Xg,zF]
theorem To.yz {p:List Nat} {t t':List (Nat × AV)} {ex:List (Nat × Bk)} {S:NS} {T:WT} {σ:Nat→Nat} {n k:Nat} (hT:T.wf) (hp:∀ b ∈ p,b=67∨b=68) (bU:∀ b b',b < 67→b' < 67→σ b=σ b'→b=b') (hex:∀ q ∈ ex,∀ b,b < 67→σ b≠q.1) (hk:k≠67∧k≠68) (aI:∀ b,b < 67→σ b≠67∧σ b≠68∧σ b≠k)
  (nY:Qc (ex++Xc σ T.hb) n 67=.cells (S.tb.enc++S.A3 k (σ 0))) (qa:Qc (ex++Xc σ T.hb) n 68=.aC (fR S.fl) false) (yA:Qc (ex++Xc σ T.hb) n k=.cells (Qp S.keys)) (ht:Qy (nr σ k) 70 t t'):To p ⟨t,ex++Xc σ T.hb,n⟩ ⟨t',Qm S T,70⟩:=by
 have yB:nr σ k 67=67:=rfl
 have uS:nr σ k 68=68:=rfl
 have rQ:nr σ k 69=k:=rfl
 refine To.Nt (nr σ k) hT (fun b hb=>?_) (fun b b' hb bL e=>?_) (fun b hb=>?_) ht
 ·rcases hp b hb with rfl|rfl<;>exact ⟨rfl,by decide⟩
 ·rcases (by omega:b < 67∨b=67∨b=68∨b=69) with h|rfl|rfl|rfl<;>rcases (by omega:b' < 67∨b'=67∨b'=68∨b'=69) with h'|rfl|rfl|rfl
  ·rw[Kw h,Kw h']at e;exact bU _ _ h h' e
  ·rw[Kw h]at e;exact absurd e (aI _ h).1
  ·rw[Kw h]at e;exact absurd e (aI _ h).2.1
  ·rw[Kw h]at e;exact absurd e (aI _ h).2.2
  ·rw[Kw h']at e;exact absurd e.symm (aI _ h').1
  ·rfl
  ·cases e
  ·exact absurd e.symm hk.1
  ·rw[Kw h']at e;exact absurd e.symm (aI _ h').2.1
  ·cases e
  ·rfl
  ·exact absurd e.symm hk.2
  ·rw[Kw h']at e;exact absurd e.symm (aI _ h').2.2
  ·exact absurd e hk.1
  ·exact absurd e hk.2
  ·rfl
 ·rcases (by omega:b < 67∨b=67∨b=68∨b=69) with h|rfl|rfl|rfl
  ·rw[Kw h,UU hT bU hex h]
   have e:Qc (Qm S T) 70 b=Qc T.hb 67 b:=by
    unfold Qm
    rw[Qd,if_neg af,Qd,if_neg af,Qd,if_neg af]
    exact ((WT.gR hT).live h 70).1
   rw[e]
   exact Ko (n:=67) (fun b hb=>(Kw hb).symm) (Nh hT h).2
  ·rw[yB,nY,Kq]
   show _=Bk.cells (az (nr σ k) S.cells)
   rw[NS.jX,uS,rQ,Kw (by decide:0 < 67)]
   rfl
  ·rw[uS,qa,wi,Vk]
  ·rw[rQ,yA,wj,Vl]
theorem NS.Nx {S:NS} (h:S.tb.wf) (v:Int):S.cells.set 32 (.int .i64 v)=({ S with b7:=v }:NS).cells:=NS.dt h 2 _
set_option maxHeartbeats 4000000 in
theorem Vm (gl:Nat→AV) (S:NS) (T:WT) (D:List Tm) (hS:NB S) (wo:S.b7≤1000000) (hW:WI T S.now D) (hD:D.Perm S.bb) (hl:S.fl.length < 48) (m:Mp) (r rp st:Int):∃ T' D',WI T' S.now D'∧D'.Perm (S.begin ⟨m,r,rp,st,0,0⟩).bb ∧
  GD Tryz.prog gl 91 [.ptr 67 0,.agg (Fl.enc ⟨m,r,rp,st,0,0⟩)] (Qm S T) 70 [67] (.aU []) (Qm (S.begin ⟨m,r,rp,st,0,0⟩) T'):=by
 have hT:=hW.wf
 obtain ⟨ha,jY⟩:=Xjw hS hl hD ⟨m,r,rp,st,0,0⟩
 obtain ⟨T',ll,gU⟩:=hW.rJ gl (S.b7 + 1) (S.now + Km m.ae st)
 dsimp only at ha jY
 rw[ha]at ll gU
 refine ⟨T',_,ll,jY,?_⟩
 dsimp only at gU
 have eW:=ll.wf
 clear ll jY ha
 refine Xn6.gq (of_decide_eq_true rfl) (Zx hT) av fun c a7 hg=>?_
 subst hg
 conv in aQ _ _=>cbv
 have aM:=fun n b hb=>Yp (S:=S) hT n b hb
 have bH:=Kq S T
 have rO:=wi S T
 have wm:=wj S T
 have aX:=NS.aS hS.wf
 have Hm:=NS.Hm hS.wf
 have Nx:=NS.Nx hS.wf (S.b7 + 1)
 have fX:=NS.aS (S:={ S with b7:=S.b7 + 1 }) hS.wf
 have d30:=NS.fa (S:={ S with b7:=S.b7 + 1 }) hS.wf
 have d31:=NS.jE (S:={ S with b7:=S.b7 + 1 }) hS.wf
 have d32:=NS.Hm (S:={ S with b7:=S.b7 + 1 }) hS.wf
 have d33:=NS.gZ (S:={ S with b7:=S.b7 + 1 }) hS.wf
 dsimp only at d31 d32
 have s31:∀ v,({ S with b7:=S.b7 + 1 }:NS).cells.set 31 v=S.tb.enc++({ S with b7:=S.b7 + 1 }:NS).tl.set 1 v:=fun v=>NS.dt (S:={ S with b7:=S.b7 + 1 }) hS.wf 1 v
 generalize ({ S with b7:=S.b7 + 1 }:NS).cells=C1 at *
 have dO:=hW.fJ c.gl
 have rR:=U0 c.gl m.ae st
 have Vn:=Hl m.ae st
 have hn:=hS.now
 have p2a:=hS.lJ
 obtain ⟨mp,ms,mi,ma,mt⟩:=m
 unfold Fl.enc Wf
 dsimp only at rR Vn gU ⊢
 obtain ⟨L,hL⟩:∃ L,L=Km mp st:=⟨_,rfl⟩
 rw[← hL]at rR Vn gU
 refine Qh (An @aM (An @bH (An @aX (An @Hm @Nx)))) ?_
 refine Hp (ex:=[(67,_),(70,_),(67,_),(68,_),(69,_)]) dO hT aP av (by exact Qu (An @fX @d33)) (by simp[Qe]) ?_
 refine Qg ?_
 have pj:=fun n b hb=>WT.oU hT n (b:=b) hb
 have dK:=yy S.fl
 have dI:=pU (S.b7 + 1)
 have iY:=Xu5 (l:=S.fl) (x:=S.b7 + 1) (fun q hq e=>by have:=(hS.ids q hq).2;omega) ⟨⟨mp,ms,mi,ma,mt⟩,r,rp,st,0,S.now + L⟩
 unfold Fl.enc Wf at iY
 dsimp only at iY
 have iM:=DU S
 ((first|apply Xt|apply Xl|apply Xd|apply Xb)<;>(first|exact rR|(refine XG ?_;first|exact rfl|exact True.intro|((try (repeat' with_reducible refine And.intro ?_ ?_));(try any_goals (first|refine zm ?_|exact CL|fail))))))
 exact Qu (An @d33 (An @d32 (An @d30 @fX)))
 ((first|refine z6 Wj ?_|refine z7 Wj ?_);(have au:=@dK;have aH:=@dI;have aV:=@iY;have bD:=@d33;have cC:=@d32;have dE:=@d30;have fe:=@fX;refine XG ?_;clear au aH aV bD cC dE fe;((try (repeat' with_reducible refine And.intro ?_ ?_));(try any_goals (first|refine zm ?_|exact CL|fail)))))
 refine Qh (An @d31 (An @d32 @fX)) ?_
 have f33:(C1.set 31 (AV.sl 1 139 0 (S.fl.length + 1) (S.fl.length + 1))).getD 33 AV.any=.ptr 0 0:=by rw[wX (by rw[fX];decide),if_neg aP];exact d33
 have f32:(C1.set 31 (AV.sl 1 139 0 (S.fl.length + 1) (S.fl.length + 1))).getD 32 AV.any=.int .i64 (S.b7 + 1):=by rw[wX (by rw[fX];decide),if_neg aP];exact d32
 refine Jd (An @pj @iM) ?_
 refine Jd (An @pj (An @iM (An @fX (An @f33 @f32)))) ?_
 have hC2:=s31 (.sl 1 139 0 (S.fl.length + 1) (S.fl.length + 1))
 refine Hk (v:=false) (ex:=[(67,_),(139,_),(69,_),(138,_),(68,_),(70,_),(67,_),(70,_),(67,_),(68,_),(69,_)]) gU (WT.gR hT) (WT.gR eW) (by simp[Qe]) aP aP av rfl ?_ ?_
 ·exact Qu (An @Ya (An @f33 @f32))
 rw[Nj (by simp[Qe])]
 refine Qg ?_
 refine ⟨(),To.yz (p:=[67]) (n:=207) (σ:=gK 140) (ex:=[(67,_),(139,_),(69,_),(138,_),(68,_),(70,_),(67,_),(70,_),(67,_),(68,_),(69,_)]) (k:=139) eW av (fun b b' h h' e=>Ni aP h h' e) ?_ aP ?_ ?_ ?_ ?_ (by simp[Qy,Qe,ai,look,aE,az])⟩
 ·intro q hq b hb e
  have h1:gK 140 b < 2∨142≤gK 140 b:=by unfold gK;split<;>omega
  simp at hq
  rcases hq with rfl|rfl|rfl|rfl|rfl|rfl|rfl|rfl|rfl|rfl|rfl<;>dsimp only at e<;>omega
 ·intro b hb
  have h1:gK 140 b < 2∨142≤gK 140 b:=by unfold gK;split<;>omega
  omega
 ·show Bk.cells _=_
  rw[hC2]
  simp[NS.begin,NS.A3,NS.tl,Yf7]
 ·show Bk.aC _ _=_
  simp only[NS.begin,← hL]
 ·show Bk.cells _=_
  simp[NS.begin,NS.keys]
theorem DW {l:List (Int × Fl)} (hd:l.Pairwise fun p q=>p.1≠q.1) {q r:Int × Fl} (hq:q ∈ l) (hr:r ∈ l) (e:q.1=r.1):q=r:=by
 have hp:=List.pairwise_iff_getElem.1 hd
 obtain ⟨i,hi,rfl⟩:=List.getElem_of_mem hq
 obtain ⟨j,hj,rfl⟩:=List.getElem_of_mem hr
 rcases Nat.lt_trichotomy i j with h1|h1|h1
 ·exact (hp i j hi hj h1 e).elim
 ·subst h1;rfl
 ·exact (hp j i hj hi h1 e.symm).elim
theorem Vo {S:NS} (hd:S.fl.Pairwise fun p q=>p.1≠q.1) {q:Int × Fl} (hq:q ∈ S.fl) (p:Pk) (cg:Bool):(S.goes q.1 p cg).fl=S.fl.map fun r=>if r.1=q.1 then (r.1,q.2.next p cg S.now) else r:=by
 unfold NS.goes
 refine List.map_congr_left fun r hr=>?_
 split
 ·rename_i e
  rw[DW hd hr hq e]
 ·rfl
theorem Vp {S:NS} (hd:S.fl.Pairwise fun p q=>p.1≠q.1) {q:Int × Fl} (hq:q ∈ S.fl) (p:Pk) (cg:Bool):∃ A B:List Tm,S.bb=A++⟨q.1,q.2.due.toNat⟩::B∧(S.goes q.1 p cg).bb=A++⟨q.1,(q.2.next p cg S.now).due.toNat⟩::B∧∀ t ∈ A++B,t.id≠q.1:=by
 obtain ⟨i,hi,rfl⟩:=List.getElem_of_mem hq
 have hs:S.fl=S.fl.take i++S.fl[i]::S.fl.drop (i + 1):=by rw[← List.drop_eq_getElem_cons hi,List.take_append_drop]
 have iT:=List.pairwise_iff_getElem.1 hd
 have hA:∀ r ∈ S.fl.take i,r.1≠S.fl[i].1:=fun r hr=>by
  obtain ⟨j,hj,rfl⟩:=List.getElem_of_mem hr
  rw[List.length_take]at hj
  rw[List.getElem_take]
  exact iT j i af hi af
 have hB:∀ r ∈ S.fl.drop (i + 1),r.1≠S.fl[i].1:=fun r hr=>by
  obtain ⟨j,hj,rfl⟩:=List.getElem_of_mem hr
  rw[List.length_drop]at hj
  rw[List.getElem_drop]
  exact (iT i (i + 1 + j) hi af af).symm
 have hid:∀ l:List (Int × Fl),(∀ r ∈ l,r.1≠S.fl[i].1)→(l.map fun r=>if r.1=S.fl[i].1 then (r.1,S.fl[i].2.next p cg S.now) else r)=l:=fun l hl=>(List.map_congr_left fun r hr=>by rw[if_neg (hl r hr)];rfl).trans (List.map_id l)
 refine ⟨(S.fl.take i).map fun q=>⟨q.1,q.2.due.toNat⟩,(S.fl.drop (i + 1)).map fun q=>⟨q.1,q.2.due.toNat⟩,?_,?_,?_⟩
 ·unfold NS.bb
  conv=>lhs;rw[hs]
  rw[List.map_append,List.map_cons]
 ·unfold NS.bb
  rw[Vo hd (List.getElem_mem hi)]
  have:(S.fl.map fun r=>if r.1=S.fl[i].1 then (r.1,S.fl[i].2.next p cg S.now) else r)=S.fl.take i++(S.fl[i].1,S.fl[i].2.next p cg S.now)::S.fl.drop (i + 1):=by
   generalize hx:S.fl[i]=x at *
   conv=>lhs;rw[hs]
   rw[List.map_append,List.map_cons,hid _ hA,hid _ hB,if_pos rfl]
  rw[this,List.map_append,List.map_cons]
 ·intro t ht
  rcases List.mem_append.1 ht with ht|ht
  ·obtain ⟨r,hr,rfl⟩:=List.mem_map.1 ht
   exact hA r hr
  ·obtain ⟨r,hr,rfl⟩:=List.mem_map.1 ht
   exact hB r hr
theorem Xur {S:NS} (h:NJ S) {D:List Tm} (hD:D.Perm S.bb) {q:Int × Fl} (hq:q ∈ S.fl) (p:Pk) (cg:Bool) (hd:(S.now:Int) + 4≤(q.2.next p cg S.now).due∧(q.2.next p cg S.now).due≤S.now + 60) :
  ∃ D',yt S.now D q.1 (q.2.next p cg S.now).due=(0,D')∧D'.Perm (S.goes q.1 p cg).bb:=by
 obtain ⟨A,B,e1,e2,e3⟩:=Vp h.dP hq p cg
 have hn:=h.now
 have bI:(⟨q.1,q.2.due.toNat⟩:Tm) ∈ D:=hD.mem_iff.2 (by rw[e1];simp)
 have Ny:jU D q.1=true:=List.any_eq_true.2 ⟨_,bI,by simp⟩
 refine ⟨Uf D q.1 (q.2.next p cg S.now).due.toNat,?_,?_⟩
 ·unfold yt
  rw[if_neg af,if_neg (by rw[Ny];simp),show max (q.2.next p cg S.now).due.toNat S.now=(q.2.next p cg S.now).due.toNat by omega]
 ·unfold Uf
  rw[e2]
  refine (List.perm_append_singleton _ _).trans ?_
  refine List.Perm.trans ?_ List.perm_middle.symm
  refine List.Perm.cons _ ?_
  have h1:(Yc q.1 D).Perm (Yc q.1 S.bb):=hD.filter _
  refine h1.trans ?_
  rw[e1]
  unfold Yc
  rw[List.filter_append,List.filter_cons,if_neg av,← List.filter_append,List.filter_eq_self.2 fun t ht=>by simpa using e3 t ht]
theorem Xn9 {S:NS} (h:NJ S) {q:Int × Fl} (hq:q ∈ S.fl) (p:Pk) (cg:Bool) (hd:(q.2.next p cg S.now).due=q.2.due):(S.goes q.1 p cg).bb=S.bb:=by
 obtain ⟨A,B,e1,e2,_⟩:=Vp h.dP hq p cg
 rw[e1,e2,hd]
theorem To.eO {p:List Nat} {t t':List (Nat × AV)} {ex:List (Nat × Bk)} {S:NS} {T:WT} {n k:Nat} (hT:T.wf) (hp:∀ b ∈ p,b=67∨b=68) (hex:∀ q ∈ ex,67≤q.1) (hk:k≠67∧k≠68) (hk2:67≤k)
  (nY:Qc (ex++T.hb) n 67=.cells (S.tb.enc++S.A3 k 0)) (qa:Qc (ex++T.hb) n 68=.aC (fR S.fl) false) (yA:Qc (ex++T.hb) n k=.cells (Qp S.keys)) (ht:Qy (nr id k) 70 t t'):To p ⟨t,ex++T.hb,n⟩ ⟨t',Qm S T,70⟩:=by
 have:=To.yz (p:=p) (t:=t) (t':=t') (ex:=ex) (S:=S) (σ:=id) (n:=n) (k:=k) hT hp (fun b b' _ _ e=>e) (fun q hq b hb e=>by have:=hex q hq;have e:b=q.1:=e;omega) hk (fun b hb=>by show b≠67∧b≠68∧b≠k;omega)
 rw[Jz]at this
 exact this nY qa yA ht
theorem Xlk {S:NS} (hd:S.fl.Pairwise fun p q=>p.1≠q.1) {q:Int × Fl} (hq:q ∈ S.fl) (p:Pk) (cg:Bool):nu (fR S.fl) (.int .i64 q.1) (.agg (q.2.next p cg S.now).enc)=fR (S.goes q.1 p cg).fl:=by
 rw[Vo hd hq]
 obtain ⟨i,hi,rfl⟩:=List.getElem_of_mem hq
 exact Yae hd hi _
theorem Hq {l:List (Int × Fl)} (hd:l.Pairwise fun p q=>p.1≠q.1) {q:Int × Fl} (hq:q ∈ l) (z:AV):nt (fR l) (.int .i64 q.1) z=.agg q.2.enc:=by
 obtain ⟨i,hi,rfl⟩:=List.getElem_of_mem hq
 exact Ns hd hi z
theorem Xn8 (S:NS) (k:Int) (p:Pk) (cg:Bool):(S.goes k p cg).keys=S.keys:=by
 unfold NS.keys NS.goes
 rw[List.map_map]
 exact List.map_congr_left fun q _=>by dsimp only[Function.comp];split<;>rfl
theorem Xtd (S:NS) (k:Int) (p:Pk) (cg:Bool):(S.goes k p cg).fl.length=S.fl.length:=by unfold NS.goes;exact List.length_map ..
set_option maxHeartbeats 4000000 in
theorem Vq (gl:Nat→AV) (S:NS) (T:WT) (D:List Tm) (hS:NI S) (hW:WI T S.now D) (hD:D.Perm S.bb) (q:Int × Fl) (hq:q ∈ S.fl) (p:Pk) (cg:Bool):∃ T' D',WI T' S.now D'∧D'.Perm (S.goes q.1 p cg).bb ∧
  GD Tryz.prog gl 93 [.ptr 67 0,.int .i64 q.1,.agg p.enc,.bool cg] (Qm S T) 70 [67] (.aU []) (Qm (S.goes q.1 p cg) T'):=by
 have hT:=hW.wf
 have Vr:=hS.now
 have iw:=U4 q.2.map.ae q.2.st q.2.side q.2.due p.flags cg (now:=S.now) af af
 have dT:=Hq hS.dP hq (.agg Fl.zero)
 have iY:=Xlk hS.dP hq p cg
 have kn:=Xn8 S q.1 p cg
 have jt:=Xtd S q.1 p cg
 have uT:(S.goes q.1 p cg).tb=S.tb:=rfl
 have dI:=pU q.1
 have dK:=yy S.fl
 have iM:=DU S
 by_cases dJ:(q.2.next p cg S.now).due=q.2.due
 ·refine ⟨T,D,hW,by rw[Xn9 hS.toNJ hq p cg dJ];exact hD,?_⟩
  refine U9.gq (of_decide_eq_true rfl) (Zx hT) av fun c a7 hg=>?_
  subst hg
  conv in aQ _ _=>cbv
  have aM:=fun n b hb=>Yp (S:=S) hT n b hb
  have bH:=Kq S T
  have rO:=wi S T
  have wm:=wj S T
  have aX:=NS.aS hS.wf
  have fa:=NS.fa hS.wf
  have gZ:=NS.gZ hS.wf
  have pj:=fun n b hb=>WT.oU hT n (b:=b) hb
  have dO:=hW.fJ c.gl
  obtain ⟨k,f⟩:=q
  obtain ⟨⟨mp,ms,mi,ma,mt⟩,r,rp,st,sd,du⟩:=f
  obtain ⟨p1,p2,p3,p4,p5,p6,p7,p8,p9,fS,fT,pb⟩:=p
  have hN:=U1 c.gl mp ms mi ma mt r rp st sd du p1 p2 p3 p4 p5 p6 p7 p8 p9 fS fT pb cg S.now
  unfold Fl.next at iY dJ
  unfold Fl.enc Wf at dT iY
  unfold Wf at hN
  unfold Pk.enc
  dsimp only at dT iY hN dI dJ kn jt ⊢
  generalize pf mp st sd du p8 cg S.now=x at *
  obtain ⟨x1,x2,x3⟩:=x
  dsimp only at iY hN dJ
  subst dJ
  refine Qh (An @aM (An @bH (An @aX @fa))) ?_
  ((first|refine nv Wj ?_|refine Ud Wj ?_);(have au:=@rO;have aH:=@dK;have aV:=@dI;have bD:=@dT;have cC:=@aM;have dE:=@bH;have fe:=@aX;have jh:=@gZ;refine XG ?_;clear au aH aV bD cC dE fe jh;((try (repeat' with_reducible refine And.intro ?_ ?_));(try any_goals (first|refine zm ?_|exact CL|fail)))))
  refine Hp (ex:=[(70,_),(67,_),(68,_),(69,_)]) dO hT aP av (by exact Qu (An @aX @gZ)) (by simp[Qe]) ?_
  refine Qg ?_
  refine Xf hN @pj ?_
  refine Qh (An @aX (An @fa @pj)) ?_
  ((first|refine nv Wj ?_|refine Ud Wj ?_);(have au:=@dK;have aH:=@dI;have aV:=@dT;have bD:=@aX;have cC:=@fa;have dE:=@pj;refine XG ?_;clear au aH aV bD cC dE;((try (repeat' with_reducible refine And.intro ?_ ?_));(try any_goals (first|refine zm ?_|exact CL|fail)))))
  (refine Qa (fun h1=>?_) (fun h1=>?_)<;>try exact h1.elim)
  refine Qh (An @aX @fa) ?_
  ((first|refine z6 Wj ?_|refine z7 Wj ?_);(have au:=@dK;have aH:=@dI;have aV:=@iY;have bD:=@aX;have cC:=@fa;refine XG ?_;clear au aH aV bD cC;((try (repeat' with_reducible refine And.intro ?_ ?_));(try any_goals (first|refine zm ?_|exact CL|fail)))))
  refine ⟨(),To.eO (ex:=[(68,_),(138,_),(138,_),(70,_),(67,_),(68,_),(69,_)]) (k:=69) hT av av aP aP ?_ rfl ?_ (by simp[Qy,Qe,ai,look,aE,az])⟩
  ·show Bk.cells _=_
   unfold NS.cells NS.tl NS.A3
   rw[jt]
   rfl
  ·show Bk.cells _=_
   rw[kn]
 obtain ⟨fO,dF⟩:(S.now:Int) + 4≤(q.2.next p cg S.now).due∧(q.2.next p cg S.now).due≤S.now + 60:=by
  rcases iw with h|⟨d,h1,h2,h3⟩
  ·exact absurd h dJ
  ·have:(q.2.next p cg S.now).due=S.now + d:=h3
   omega
 obtain ⟨D',wu,jY⟩:=Xur hS.toNJ hD hq p cg ⟨fO,dF⟩
 obtain ⟨T',ll,gU⟩:=hW.rJ gl q.1 (q.2.next p cg S.now).due
 rw[wu]at ll gU
 refine ⟨T',D',ll,jY,?_⟩
 have eW:=ll.wf
 clear jY wu ll
 refine U9.gq (of_decide_eq_true rfl) (Zx hT) av fun c a7 hg=>?_
 subst hg
 conv in aQ _ _=>cbv
 have aM:=fun n b hb=>Yp (S:=S) hT n b hb
 have bH:=Kq S T
 have rO:=wi S T
 have wm:=wj S T
 have aX:=NS.aS hS.wf
 have fa:=NS.fa hS.wf
 have gZ:=NS.gZ hS.wf
 have pj:=fun n b hb=>WT.oU hT n (b:=b) hb
 have dO:=hW.fJ c.gl
 obtain ⟨k,f⟩:=q
 obtain ⟨⟨mp,ms,mi,ma,mt⟩,r,rp,st,sd,du⟩:=f
 obtain ⟨p1,p2,p3,p4,p5,p6,p7,p8,p9,fS,fT,pb⟩:=p
 have hN:=U1 c.gl mp ms mi ma mt r rp st sd du p1 p2 p3 p4 p5 p6 p7 p8 p9 fS fT pb cg S.now
 unfold Fl.next at iY dJ gU
 unfold Fl.enc Wf at dT iY
 unfold Wf at hN
 unfold Pk.enc
 clear fO dF iw
 dsimp only at dT iY hN dI dJ kn jt gU ⊢
 generalize pf mp st sd du p8 cg S.now=x at *
 obtain ⟨x1,x2,x3⟩:=x
 dsimp only at iY hN dJ
 refine Qh (An @aM (An @bH (An @aX @fa))) ?_
 ((first|refine nv Wj ?_|refine Ud Wj ?_);(have au:=@rO;have aH:=@dK;have aV:=@dI;have bD:=@dT;have cC:=@aM;have dE:=@bH;have fe:=@aX;have jh:=@gZ;refine XG ?_;clear au aH aV bD cC dE fe jh;((try (repeat' with_reducible refine And.intro ?_ ?_));(try any_goals (first|refine zm ?_|exact CL|fail)))))
 refine Hp (ex:=[(70,_),(67,_),(68,_),(69,_)]) dO hT aP av (by exact Qu (An @aX @gZ)) (by simp[Qe]) ?_
 refine Qg ?_
 refine Xf hN @pj ?_
 refine Qh (An @aX (An @fa @pj)) ?_
 ((first|refine nv Wj ?_|refine Ud Wj ?_);(have au:=@dK;have aH:=@dI;have aV:=@dT;have bD:=@aX;have cC:=@fa;have dE:=@pj;refine XG ?_;clear au aH aV bD cC dE;((try (repeat' with_reducible refine And.intro ?_ ?_));(try any_goals (first|refine zm ?_|exact CL|fail)))))
 (refine Qa (fun h1=>?_) (fun h1=>?_)<;>try exact h1.elim)
 rotate_left
 ·exact absurd h1 (by simpa using dJ)
 refine Qh (An @aX @gZ) ?_
 refine Hk (v:=false) (ex:=[(138,_),(138,_),(70,_),(67,_),(68,_),(69,_)]) gU (WT.gR hT) (WT.gR eW) (by simp[Qe]) aP aP av rfl ?_ ?_
 ·exact Qu (An @Ya (An @aX @gZ))
 rw[Nj (by simp[Qe])]
 refine Qh (An @aX @fa) ?_
 ((first|refine z6 Wj ?_|refine z7 Wj ?_);(have au:=@dK;have aH:=@dI;have aV:=@iY;have bD:=@aX;have cC:=@fa;refine XG ?_;clear au aH aV bD cC;((try (repeat' with_reducible refine And.intro ?_ ?_));(try any_goals (first|refine zm ?_|exact CL|fail)))))
 refine ⟨(),To.yz (p:=[67]) (n:=206) (σ:=gK 139) (ex:=[(68,_),(138,_),(138,_),(70,_),(67,_),(68,_),(69,_)]) (k:=69) eW av (fun b b' h h' e=>Ni aP h h' e) ?_ aP ?_ ?_ rfl ?_ (by simp[Qy,Qe,ai,look,aE,az])⟩
 ·intro q hq b hb e
  have h1:gK 139 b < 2∨141≤gK 139 b:=by unfold gK;split<;>omega
  simp at hq
  rcases hq with rfl|rfl|rfl|rfl|rfl|rfl|rfl<;>dsimp only at e<;>omega
 ·intro b hb
  have h1:gK 139 b < 2∨141≤gK 139 b:=by unfold gK;split<;>omega
  omega
 ·show Bk.cells _=_
  unfold NS.cells NS.tl NS.A3
  rw[jt]
  rfl
 ·show Bk.cells _=_
  rw[kn]
section
variable {P:Program} {c:Cx}
theorem Xsn {anc:List Nat} {fs:List bn} {r0:List bG} {K:St→Prop} {s:St} {d:Nat} {t:TypeId} {ok:Bool} {xs:List TV} {gd:Option (Nat × Bool)} {wide:Bool} {ks:List SK} {z:AV} (hT:dk P t wide ks z) (hb:gB s.fs gd=some true) (aY:fE s.fs gd)
  (h:Qv none (aG c.gl s.fs xs)∧pI s.fs wide ks ((aG c.gl s.fs xs).map Qk)∧XD P c anc r0 (⟨jo gd++Xr xs,[fx ((aG c.gl s.fs xs).map Qk)],[d],[]⟩::fs) K (s.put d (zZ s.fs z ok ((aG c.gl s.fs xs).map Qk)))) :
  Zm P c anc (.pd (some d) (.zt t ok) xs gd) r0 fs K s:=⟨_,_,FL hb aY (KQ hT h.1 h.2.1),h.2.2⟩
end
def uU (b:Int→Bool):List Int→Nat→Int
 | [],_=>-1
 | x::l,k=>if b x=true then k else uU b l (k + 1)
theorem Vs {b:Int→Bool}:∀ (l:List Int) (k:Nat),decide (0≤uU b l k)=l.any b
 | [],k=>by simp[uU]
 | x::l,k=>by
  unfold uU
  rw[List.any_cons]
  split
  ·rename_i h;rw[h];simp
  ·rename_i h;rw[Vs l (k + 1)];simp[h]
section
variable {h:List (Nat × Bk)} {m kb:Nat} {l:List Int} {f:FuncId} {caps:List AV} {b:Int→Bool}
set_option maxHeartbeats 2000000 in
theorem Xzi (gl:Nat→AV) (H:HL h m) (hl:l.length≤1000000) (Hr:kb < m) (hk:∀ n,Qc h n kb=.cells (Qp l)) (gE:ai m caps)
  (hf:∀ x ∈ l,GD Tryz.prog gl f (.int .i64 x::caps) h m (List.range m) (.bool (b x)) h) :
  GD Tryz.prog gl 136 [.sl 1 kb 0 l.length l.length,.cl f caps] h m (List.range m) (.int .i64 (uU b l 0)) h:=by
 refine Hn.gq (of_decide_eq_true rfl) H.lives (fun b hb=>List.mem_range.1 hb) fun c a7 hg=>?_
 subst hg
 conv in aQ _ _=>cbv
 have dz:=Yj l
 refine Qg ?_
 refine Yk (fun k:Nat=>k≤l.length∧uU b (l.drop k) k=uU b l 0) (fun k=>⟨[(0,.sl 1 kb 0 l.length l.length),(1,.cl f caps),(6,.sl 1 kb 0 l.length l.length),(7,.int .i64 l.length),(8,.int .i64 k)],h,m⟩) (fun k=>l.length - k) Hn.mixed (List.range m) a7
  ⟨0,⟨by omega,rfl⟩,To.dH (by exact Qw) fun b=>rfl⟩ fun k hk2=>?_
 obtain ⟨iM,cJ⟩:=hk2
 have gN:∀ b ∈ List.range m,b < m:=fun b hb=>List.mem_range.1 hb
 refine Qg ?_
 (refine Qa (fun h1=>?_) (fun h1=>?_)<;>try exact h1.elim)
 ·have bF:k < l.length:=by omega
  have kn:=AZ l k bF
  have gJ:l.drop k=l[k]::l.drop (k + 1):=List.drop_eq_getElem_cons bF
  rw[gJ]at cJ
  rw[uU]at cJ
  have hc:=hf l[k] (List.getElem_mem bF)
  generalize l[k]=t at *
  refine Qh (An @dz (An @kn @hk)) ?_
  refine nX (v:=true) (ex:=[]) hc H H (by simp[Qe]) (Nat.le_refl m) av rfl ?_ ?_
  ·refine Qg ?_
   exact rfl
  refine Qg ?_
  (refine Qa (fun h2=>?_) (fun h2=>?_)<;>try exact h2.elim)
  ·rw[if_pos h2]at cJ
   refine Qg ?_
   refine ⟨(),?_⟩
   rw[← cJ]
   exact To.drop (ex:=[]) H av gN (by simp[Qy,Qe,look,aE])
  ·rw[if_neg (by simpa using h2)]at cJ
   refine Qg ?_
   refine ⟨k + 1,⟨by omega,cJ⟩,To.drop (ex:=[]) H av gN ?_,by omega⟩
   simp[Qy,Qe,ai,look,aE,gE,Hr]
   exact (Jy caps).symm
 ·have:k=l.length:=by omega
  subst this
  rw[List.drop_length]at cJ
  have cJ:(-1:Int)=uU b l 0:=cJ
  refine Qg ?_
  refine ⟨(),?_⟩
  rw[← cJ]
  exact To.drop (ex:=[]) H av gN (by simp[Qy,Qe,look,aE])
set_option maxHeartbeats 2000000 in
theorem Vt (gl:Nat→AV) (H:HL h m) (hl:l.length≤1000000) (Hr:kb < m) (hk:∀ n,Qc h n kb=.cells (Qp l)) (gE:ai m caps)
  (hf:∀ x ∈ l,GD Tryz.prog gl f (.int .i64 x::caps) h m (List.range m) (.bool (b x)) h) :
  GD Tryz.prog gl 96 [.sl 1 kb 0 l.length l.length,.cl f caps] h m (List.range m) (.bool (l.any b)) h:=by
 refine Yal.gq (of_decide_eq_true rfl) H.lives (fun b hb=>List.mem_range.1 hb) fun c a7 hg=>?_
 subst hg
 conv in aQ _ _=>cbv
 have hc:=Xzi c.gl H hl Hr hk gE hf
 have ha:=Vs (b:=b) l 0
 refine Qg ?_
 refine nX (v:=false) (ex:=[]) hc H H (by simp[Qe]) (Nat.le_refl m) av rfl ⟨?_,?_,?_⟩ ?_
 ·exact Qw
 ·exact Qu @Ya
 ·simp[ai,Qe,Hr,gE]
 refine Qg ?_
 refine ⟨(),?_⟩
 rw[← ha]
 exact To.drop (ex:=[]) H av (fun b hb=>List.mem_range.1 hb) (by simp[Qy,Qe,look,aE])
end
section
variable {h:List (Nat × Bk)} {mm nb mb pb:Nat} {S:NS} {m:Mp}
set_option maxHeartbeats 2000000 in
theorem Xox (gl:Nat→AV) (hS:NB S) (H:HL h mm) (nY:∀ n,Qc h n 67=.cells S.cells) (qa:∀ n,Qc h n 68=.aC (fR S.fl) false) (A4:∀ n,Qc h n nb=.cells [.ptr 67 0]) (cY:∀ n,Qc h n mb=.cells m.enc) {q:Int × Fl} (hq:q ∈ S.fl) :
  GD Tryz.prog gl 101 [.int .i64 q.1,.ptr nb 0,.ptr mb 0] h mm (List.range mm) (.bool (decide (q.2.map=m))) h:=by
 refine Xqg.gq (of_decide_eq_true rfl) H.lives (fun b hb=>List.mem_range.1 hb) fun c a7 hg=>?_
 subst hg
 conv in aQ _ _=>cbv
 have dT:=Hq hS.dP hq (.agg Fl.zero)
 have dI:=pU q.1
 have dK:=yy S.fl
 have aX:=NS.aS hS.wf
 have fa:=NS.fa hS.wf
 obtain ⟨k,f⟩:=q
 obtain ⟨⟨p0,p1,p2,p3,p4⟩,g0,g1,g2,g3,g4⟩:=f
 obtain ⟨mp,ms,mi,ma,mt⟩:=m
 have heq:=@Dg c false ⟨p0,p1,p2,p3,p4⟩ ⟨mp,ms,mi,ma,mt⟩
 unfold Mp.enc at heq cY
 unfold Fl.enc Wf at dT
 dsimp only at dT heq cY dI ⊢
 refine Qh (An @A4 (An @nY (An @aX @fa))) ?_
 ((first|refine nv Wj ?_|refine Ud Wj ?_);(have au:=@qa;have aH:=@dK;have aV:=@dI;have bD:=@dT;have cC:=@cY;refine XG ?_;clear au aH aV bD cC;((try (repeat' with_reducible refine And.intro ?_ ?_));(try any_goals (first|refine zm ?_|exact CL|fail)))))
 ((first|apply Xt|apply Xl|apply Xd|apply Xb)<;>(first|exact heq|(refine XG ?_;first|exact rfl|exact True.intro|((try (repeat' with_reducible refine And.intro ?_ ?_));(try any_goals (first|refine zm ?_|exact CL|fail))))))
 refine Qg ?_
 ·simp[Uv,Ug,cM];decide
 exact ⟨(),To.drop (ex:=[]) H av (fun b hb=>List.mem_range.1 hb) (by simp[Qy,Qe,look,aE])⟩
set_option maxHeartbeats 2000000 in
theorem Xzr (gl:Nat→AV) (hS:NJ S) (H:HL h mm) (nY:∀ n,Qc h n 67=.cells S.cells) (qa:∀ n,Qc h n 68=.aC (fR S.fl) false) (A4:∀ n,Qc h n nb=.cells [.ptr 67 0]) (cY:∀ n,Qc h n mb=.cells m.enc) {p:Pk} (A5:∀ n,Qc h n pb=.cells p.enc) {q:Int × Fl} (hq:q ∈ S.fl) :
  GD Tryz.prog gl 97 [.int .i64 q.1,.ptr nb 0,.ptr mb 0,.ptr pb 0] h mm (List.range mm) (.bool (decide (q.2.map=m) && q.2.rem == p.aA)) h:=by
 refine Yb1.gq (of_decide_eq_true rfl) H.lives (fun b hb=>List.mem_range.1 hb) fun c a7 hg=>?_
 subst hg
 conv in aQ _ _=>cbv
 have dT:=Hq hS.dP hq (.agg Fl.zero)
 have dI:=pU q.1
 have dK:=yy S.fl
 have aX:=NS.aS hS.wf
 have fa:=NS.fa hS.wf
 obtain ⟨k,f⟩:=q
 obtain ⟨⟨p0,p1,p2,p3,p4⟩,g0,g1,g2,g3,g4⟩:=f
 obtain ⟨mp,ms,mi,ma,mt⟩:=m
 obtain ⟨x1,x2,x3,x4,x5,x6,x7,x8,x9,x10,x11,xb⟩:=p
 have heq:=@Dg c false ⟨p0,p1,p2,p3,p4⟩ ⟨mp,ms,mi,ma,mt⟩
 unfold Mp.enc at heq cY
 unfold Pk.enc at A5
 unfold Fl.enc Wf at dT
 dsimp only at dT heq cY A5 dI ⊢
 refine Qh (An @A4 (An @nY (An @aX @fa))) ?_
 ((first|refine nv Wj ?_|refine Ud Wj ?_);(have au:=@qa;have aH:=@dK;have aV:=@dI;have bD:=@dT;have cC:=@cY;refine XG ?_;clear au aH aV bD cC;((try (repeat' with_reducible refine And.intro ?_ ?_));(try any_goals (first|refine zm ?_|exact CL|fail)))))
 by_cases hm:(⟨p0,p1,p2,p3,p4⟩:Mp)=⟨mp,ms,mi,ma,mt⟩
 ·rw[decide_eq_true hm]at heq ⊢
  refine Xf heq (An @A4 (An @nY (An @aX (An @fa @A5)))) ?_
  refine Xsn Wj ?_ ?_ ?_
  ·exact Qw
  ·exact Qw
  (have au:=@qa;have aH:=@dK;have aV:=@dI;have bD:=@dT;have cC:=@cY;have dE:=@A5;refine XG ?_;clear au aH aV bD cC dE;((try (repeat' with_reducible refine And.intro ?_ ?_));(try any_goals (first|refine zm ?_|exact CL|fail))))
  ·simp[Uv,Ug,cM];decide
  exact ⟨(),To.drop (ex:=[]) H av (fun b hb=>List.mem_range.1 hb) (by simp[Qy,Qe,look,aE])⟩
 ·rw[decide_eq_false hm]at heq ⊢
  refine Xf heq (An @A4 (An @nY (An @aX (An @fa @A5)))) ?_
  ((first|apply Ym|apply Yb)<;>(have au:=@A4;have aH:=@nY;have aV:=@aX;have bD:=@fa;have cC:=@A5;refine XG ?_;clear au aH aV bD cC;first|exact rfl|exact True.intro|((try (repeat' with_reducible refine And.intro ?_ ?_));(try any_goals (first|refine zm ?_|exact CL|fail)))))
  ·simp[Uv,Ug,cM];decide
  exact ⟨(),To.drop (ex:=[]) H av (fun b hb=>List.mem_range.1 hb) (by simp[Qy,Qe,look,aE])⟩
end
structure NK (S:NS):Prop extends NI S where
 nx:S.b7≤2 * S.aF
 qb:S.told≤64 * S.aF
 act:S.aF≤300
theorem NI.DX {S:NS} (h:NJ S):∀ q ∈ S.fl,1≤q.1:=fun q hq=>(h.ids q hq).1
theorem NI.setRef {S:NS} (h:NI S) {r:Nat} (hr:r≤4):NI { S with ref:=r } :=
 ⟨⟨h.gt,h.wf,h.ids,h.dP,h.len,h.kj,h.has,h.mS,h.now,h.lJ,hr⟩,h.due⟩
theorem NI.ko {S:NS} (h:NI S) (r:Nat):NI { S with told:=r } :=
 ⟨⟨h.gt,h.wf,h.ids,h.dP,h.len,h.kj,h.has,h.mS,h.now,h.lJ,h.ref⟩,h.due⟩
theorem NI.eD {S:NS} (h:NI S) (r:Nat):NI { S with aF:=r } :=
 ⟨⟨h.gt,h.wf,h.ids,h.dP,h.len,h.kj,h.has,h.mS,h.now,h.lJ,h.ref⟩,h.due⟩
structure jZ (S S':NS) (a b:Nat):Prop where
 nx:S'.b7≤S.b7 + a
 qb:S'.told≤S.told + b
 act:S'.aF=S.aF
 loose:S'.loose=S.loose
theorem jZ.refl (S:NS) (a b:Nat):jZ S S a b:=⟨by omega,by omega,rfl,rfl⟩
theorem NI.refuse {S:NS} (h:NI S) (f:List UInt8) (e:Int):NI (S.refuse f e).2∧jZ S (S.refuse f e).2 0 0:=by
 unfold NS.refuse
 split
 ·exact ⟨h,jZ.refl ..⟩
 ·exact ⟨h.setRef (by have:=h.ref;omega),⟨by show S.b7≤_;omega,Nat.le_refl _,rfl,rfl⟩⟩
theorem NI.yC {S:NS} (h:NI S) {f:Fl} (aI:f.map ∈ S.tb.maps) (cd:∀ q ∈ S.fl,¬ (q.2.map=f.map∧q.2.rem=f.rem∧q.2.rport=f.rport)) (hl:S.fl.length < 48):NI (S.begin f) :=
 h.begin h.gt h.wf (fun _ hm=>hm) (fun _ hm=>.inl hm) aI cd hl
theorem NI.aR {S:NS} (h:NI S) (f:List UInt8):NI (S.aR f).2∧jZ S (S.aR f).2 1 0:=by
 have hS:NI S∧jZ S S 1 0:=⟨h,jZ.refl ..⟩
 unfold NS.aR
 split
 ·exact hS
 dsimp only
 split
 ·exact hS
 split
 ·exact hS
 split
 ·exact hS
 split
 ·exact hS
 rename_i m hm
 have CJ:=List.mem_of_find?_eq_some hm
 split
 ·exact ⟨h.goes ..,⟨by show S.b7≤_;omega,Nat.le_refl _,rfl,rfl⟩⟩
 rename_i hk
 split
 ·exact hS
 split
 ·exact hS
 rename_i hlen
 refine ⟨h.yC CJ (U5 (NI.DX h.toNJ) (Decidable.not_not.1 hk)) af,⟨?_,Nat.le_refl _,rfl,rfl⟩⟩
 show S.b7 + 1≤_
 omega
theorem NI.dQ {S:NS} (h:NI S) (f:List UInt8) (m:Mp) (es:List Ev):NI (S.dQ f m es).2∧jZ S (S.dQ f m es).2 1 es.length:=by
 have h1:NI (S.log es):=h.ko _
 unfold NS.dQ
 dsimp only
 split
 ·obtain ⟨g1,g2⟩:=h1.aR (Zf f 0 (3405803777 + m.a) m.port)
  exact ⟨g1,⟨g2.nx,g2.qb,g2.act,g2.loose⟩⟩
 ·exact ⟨h1,⟨by show S.b7≤_;omega,Nat.le_refl _,rfl,rfl⟩⟩
theorem Vu {p:Pk} (hp:p.ae=1∨p.ae=6∨p.ae=17) {s i:Int} (h1:0≤s) (h2:s < 8) (h3:0≤i) (h4:i≤65535):Jm p.ae s i=true:=by
 unfold Jm
 simp only[Bool.and_eq_true,Bool.or_eq_true,beq_iff_eq,decide_eq_true_eq]
 omega
theorem Vv {S:NS} (hn:S.now≤549755813888) {t:Tb} (h:GT t) {m:Mp} (hm:m ∈ t.maps) (b:Bool):Zo (S.ev m b).t (S.ev m b).s (S.ev m b).a (S.ev m b).b=true:=by
 have aY:=h.maps m hm
 obtain ⟨_,⟨h3,h4⟩,_⟩:=Wd aY.1.1
 have h5:=aY.1.2.2
 have h6:=vS m.port
 show Zo S.now m.s m.a (Xk m.port)=true
 unfold Zo
 simp only[Bool.and_eq_true,decide_eq_true_eq]
 omega
theorem NI.yD {S:NS} (h:NI S) {p:Pk} {S0:Nat} {aR:Int} (bF:Jm p.ae S0 aR=true) {x:Tb × Mp × Bool × Int} (ho:cf S.tb p.ae S0 aR x) (he:x.2.2.2=0)
  (cd:∀ q ∈ S.fl,¬ (q.2.map=x.2.1∧q.2.rem=p.dst∧q.2.rport=p.aj)) (hl:S.fl.length < 48) (st:Int):NI (({ S with tb:=x.1 }:NS).begin ⟨x.2.1,p.dst,p.aj,st,0,0⟩):=by
 have hg:=ho.bR h.gt h.wf bF
 have hw:=ho.wf h.wf
 have aI:=(ho.has he).1
 refine h.begin hg hw ?_ ?_ aI cd hl
 ·cases ho with
  | no e lp=>exact fun m hm=>hm
  | old m hf=>exact fun m hm=>hm
  | own port=>exact fun m hm=>List.mem_append_left _ hm
  | new b k=>exact fun m hm=>List.mem_append_left _ hm
 ·cases ho with
  | no e lp=>exact fun m hm=>.inl hm
  | old m hf=>exact fun m hm=>.inl hm
  | own port=>exact fun m hm=>(List.mem_append.1 hm).imp id fun h=>List.mem_singleton.1 h
  | new b k=>exact fun m hm=>(List.mem_append.1 hm).imp id fun h=>List.mem_singleton.1 h
theorem Vw {f:List UInt8} (h:bY f=0):((aB f).ae=1∨(aB f).ae=6∨(aB f).ae=17)∧Kn (aB f):=by
 have he:Yw (aB f)=0:=by
  unfold bY at h
  dsimp only at h
  (repeat' split at h)<;>first|cases h|exact h
 have:=Wb he
 exact ⟨this.1,this.2.1⟩
def NS.fwd (S:NS) (p:Pk):Option Mp:=S.tb.maps.find? (Zi p.ae (p.aA - 167772161) p.ah)
def NS.cQ (S:NS) (p:Pk):Int:=match S.fwd p with
 | some m=>S.findF m p.dst p.aj
 | none=>0
noncomputable def NS.opened (S:NS) (f:List UInt8) (o:Tb × Mp × Bool × Int):Rp × NS :=
 (({ S with tb:=o.1 }:NS).begin ⟨o.2.1,(aB f).dst,(aB f).aj,pY (aB f).ae,0,0⟩).dQ f o.2.1 (if o.2.2.1 then [({ S with tb:=o.1 }:NS).ev o.2.1 false] else [])
theorem DY (S:NS) (f:List UInt8) (draw:Int):S.out f draw =
  if bY f≠0 then (bS (bY f),S) else
  if (aB f).aA - 167772161 < 0∨8≤(aB f).aA - 167772161 then (bS 7,S) else
  if (aB f).ae=1∧(aB f).flags≠8 then (bS 4,S) else
  if (aB f).aw=1 then (bS 12,S) else
  if S.cQ (aB f)≠0 then (match S.fwd (aB f) with
   | some m=>(S.goes (S.cQ (aB f)) (aB f) false).dQ f m []
   | none=>(bS 0,S))
  else if A1 (aB f).ae (aB f).flags=false then (bS 11,S) else
  if 48≤S.fl.length then S.refuse f 6 else
  if (S.tb.cz (aB f).ae ((aB f).aA - 167772161) (aB f).ah draw).2.2.2≠0 then S.refuse f (S.tb.cz (aB f).ae ((aB f).aA - 167772161) (aB f).ah draw).2.2.2 else
  S.opened f (S.tb.cz (aB f).ae ((aB f).aA - 167772161) (aB f).ah draw):=rfl
theorem NI.opened {S:NS} (h:NI S) {f:List UInt8} (he:bY f=0) {draw:Int} (hs:¬ ((aB f).aA - 167772161 < 0∨8≤(aB f).aA - 167772161)) (hk:S.cQ (aB f)=0) (hl:S.fl.length < 48) (ho:(S.tb.cz (aB f).ae ((aB f).aA - 167772161) (aB f).ah draw).2.2.2=0) :
  ∃ S0:Nat,(aB f).aA - 167772161=S0∧S0 < 8∧Jm (aB f).ae S0 (aB f).ah=true∧cf S.tb (aB f).ae S0 (aB f).ah (S.tb.cz (aB f).ae S0 (aB f).ah draw)∧(∀ q ∈ S.fl,¬ (q.2.map=(S.tb.cz (aB f).ae S0 (aB f).ah draw).2.1∧q.2.rem=(aB f).dst∧q.2.rport=(aB f).aj)) ∧
  ∀ st,NI (({ S with tb:=(S.tb.cz (aB f).ae S0 (aB f).ah draw).1 }:NS).begin ⟨(S.tb.cz (aB f).ae S0 (aB f).ah draw).2.1,(aB f).dst,(aB f).aj,st,0,0⟩):=by
 obtain ⟨hp,hr⟩:=Vw he
 obtain ⟨S0,mU⟩:∃ S0:Nat,(aB f).aA - 167772161=S0:=⟨((aB f).aA - 167772161).toNat,by omega⟩
 unfold NS.cQ NS.fwd at hk
 rw[mU]at ho hk hs
 have bF:Jm (aB f).ae S0 (aB f).ah=true:=Vu hp af af hr.2.2.2.2.1.1 hr.2.2.2.2.1.2
 have bl:=Proofs.YtogckmommodmhaaGreatDoor.opened h.gt h.wf bF draw
 have cd:∀ q ∈ S.fl,¬ (q.2.map=(S.tb.cz (aB f).ae S0 (aB f).ah draw).2.1∧q.2.rem=(aB f).dst∧q.2.rport=(aB f).aj):=by
  intro q hq ⟨e1,e2,e3⟩
  have aI:=h.kj q hq
  have A6:=h.gt.fwd aI
  obtain ⟨_,k1,k2,k3,_⟩:=bl.has ho
  rw[e1]at aI A6
  rw[k1,k2,k3]at A6
  rw[A6]at hk
  exact U5 (NI.DX h.toNJ) hk q hq ⟨e1,e2,e3⟩
 exact ⟨S0,mU,by omega,bF,bl,cd,fun st=>h.yD bF bl ho cd hl st⟩
theorem NI.out {S:NS} (h:NI S) (f:List UInt8) (draw:Int):NI (S.out f draw).2∧jZ S (S.out f draw).2 2 1:=by
 have hS:∀ r,NI ((r,S):Rp × NS).2∧jZ S ((r,S):Rp × NS).2 2 1:=fun r=>⟨h,jZ.refl ..⟩
 have hR:∀ e,NI (S.refuse f e).2∧jZ S (S.refuse f e).2 2 1:=fun e=>by
  obtain ⟨g1,g2⟩:=h.refuse f e
  exact ⟨g1,⟨by have:=g2.nx;omega,by have:=g2.qb;omega,g2.act,g2.loose⟩⟩
 rw[DY]
 by_cases he:bY f=0
 case neg=>rw[if_pos he];exact hS _
 rw[if_neg (by simpa using he)]
 by_cases hs:(aB f).aA - 167772161 < 0∨8≤(aB f).aA - 167772161
 ·rw[if_pos hs];exact hS _
 rw[if_neg hs]
 by_cases h2:(aB f).ae=1∧(aB f).flags≠8
 ·rw[if_pos h2];exact hS _
 rw[if_neg h2]
 by_cases h3:(aB f).aw=1
 ·rw[if_pos h3];exact hS _
 rw[if_neg h3]
 by_cases hk:S.cQ (aB f)=0
 case neg =>
  rw[if_pos hk]
  cases S.fwd (aB f) with
  | none=>exact hS _
  | some m =>
   obtain ⟨g1,g2⟩:=(h.goes (S.cQ (aB f)) (aB f) false).dQ f m []
   dsimp only
   refine ⟨g1,⟨?_,?_,g2.act,g2.loose⟩⟩
   ·have h3:_≤S.b7 + 1:=g2.nx
    omega
   ·have h3:_≤S.told + 0:=g2.qb
    omega
 rw[if_neg (by simpa using hk)]
 by_cases h4:A1 (aB f).ae (aB f).flags=false
 ·rw[if_pos h4];exact hS _
 rw[if_neg h4]
 by_cases hl:48≤S.fl.length
 ·rw[if_pos hl];exact hR _
 rw[if_neg hl]
 by_cases ho:(S.tb.cz (aB f).ae ((aB f).aA - 167772161) (aB f).ah draw).2.2.2=0
 case neg=>rw[if_pos ho];exact hR _
 rw[if_neg (by simpa using ho)]
 obtain ⟨S0,mU,_,bF,bl,cd,hb⟩:=h.opened he hs hk af ho
 rw[mU]
 unfold NS.opened
 have hb:=hb (pY (aB f).ae)
 generalize S.tb.cz (aB f).ae S0 (aB f).ah draw=o at *
 obtain ⟨g1,g2⟩:=hb.dQ f o.2.1 (if o.2.2.1 then [({ S with tb:=o.1 }:NS).ev o.2.1 false] else [])
 have hlen:(if o.2.2.1=true then [({ S with tb:=o.1 }:NS).ev o.2.1 false] else []).length≤1:=by split<;>simp
 refine ⟨g1,⟨?_,?_,g2.act,g2.loose⟩⟩
 ·have h2:=g2.nx
  have h3:_≤S.b7 + 1 + 1:=h2
  omega
 ·have h2:=g2.qb
  have h3:_≤S.told + _:=h2
  omega
theorem Ya6 (x:NS × List Ev) (k:Int):∃ tb es,cj x k=({ x.1 with fl:=x.1.fl.filter fun r=>!(r.1 == k),tb:=tb },x.2++es)∧es.length≤1∧(NJ x.1→∀ e ∈ es,e.t=x.1.now∧Zo e.t e.s e.a e.b=true):=by
 obtain ⟨S,l⟩:=x
 unfold cj
 dsimp only
 cases hf:S.fl.find? (fun q=>q.1 == k) with
 | none =>
  have:(S.fl.filter fun r=>!(r.1 == k))=S.fl:=List.filter_eq_self.2 fun q hq=>by have:=List.find?_eq_none.1 hf q hq;simpa using this
  rw[this]
  exact ⟨S.tb,[],by simp,by simp,by simp⟩
 | some q =>
  dsimp only
  split
  ·exact ⟨S.tb,[],by simp,by simp,by simp⟩
  ·refine ⟨(S.tb.cls q.2.map).1,if (S.tb.cls q.2.map).2.1 then [({ S with fl:=S.fl.filter fun r=>!(r.1 == k) }:NS).ev q.2.map true] else [],?_,by split<;>simp,fun h e he=>?_⟩
   ·split<;>simp
   ·split at he
    ·obtain rfl:=List.mem_singleton.1 he
     exact ⟨rfl,Vv (S:={ S with fl:=S.fl.filter fun r=>!(r.1 == k) }) h.now h.gt (h.kj q (List.mem_of_find?_eq_some hf)) true⟩
    ·cases he
structure lK (S S':NS) (K:List Int) (es:List Ev):Prop where
 nj:NJ S'
 fl:S'.fl=S.fl.filter fun q=>!(K.contains q.1)
 now:S'.now=S.now
 nx:S'.b7=S.b7
 told:S'.told=S.told
 ref:S'.ref=S.ref
 aF:S'.aF=S.aF
 loose:S'.loose=S.loose
 len:es.length≤K.length
 bR:∀ e ∈ es,e.t=S.now∧Zo e.t e.s e.a e.b=true
theorem Nz {S:NS} (h:NJ S):∀ K:List Int,∃ es,(K.foldl cj (S,[])).2=es∧lK S (K.foldl cj (S,[])).1 K es:=by
 have key:∀ (K K0:List Int) (x:NS × List Ev),lK S x.1 K0 x.2→lK S (K.foldl cj x).1 (K0++K) (K.foldl cj x).2:=by
  intro K
  induction K with
  | nil=>intro K0 x hx;rw[List.append_nil];exact hx
  | cons k K ih =>
   intro K0 x hx
   have:=ih (K0++[k]) (cj x k) ?_
   ·rw[List.append_assoc]at this;exact this
   ·obtain ⟨tb,es,e,hl,hg⟩:=Ya6 x k
    have Vx:=hx.nj.cj k
    rw[e]at Vx ⊢
    refine ⟨Vx,?_,hx.now,hx.nx,hx.told,hx.ref,hx.aF,hx.loose,?_,?_⟩
    ·show x.1.fl.filter _=_
     rw[hx.fl,List.filter_filter]
     refine List.filter_congr fun q _=>?_
     rw[List.contains_eq_mem,List.contains_eq_mem]
     by_cases e1:q.1=k<;>by_cases e2:q.1 ∈ K0<;>simp[e1,e2]<;>simp[← e1,e2]
    ·have:=hx.len
     simp;omega
    ·intro e' lp
     rcases List.mem_append.1 lp with lp|lp
     ·exact hx.bR e' lp
     ·have:=hg hx.nj e' lp
      rw[hx.now]at this
      exact this
 intro K
 refine ⟨_,rfl,?_⟩
 have:=key K [] (S,[]) ⟨h,(List.filter_eq_self.2 fun q _=>rfl).symm,rfl,rfl,rfl,rfl,rfl,rfl,by simp,by simp⟩
 rw[List.nil_append]at this
 exact this
theorem DZ {D:List Tm} {n:Nat} {k:Int}:k ∈ bj D n ↔ ∃ t ∈ D,t.due < n∧t.id=k:=by
 unfold bj
 rw[List.mem_map]
 constructor
 ·rintro ⟨t,ht,rfl⟩
  have:=(Wq _).mem_iff.1 ht
  rw[List.mem_filter]at this
  exact ⟨t,this.1,by simpa using this.2,rfl⟩
 ·rintro ⟨t,ht,hd,rfl⟩
  exact ⟨t,(Wq _).mem_iff.2 (List.mem_filter.2 ⟨ht,by simpa using hd⟩),rfl⟩
theorem Vy (D:List Tm) (n:Nat):(bj D n).length≤D.length:=by
 unfold bj
 rw[List.length_map,(Wq _).length_eq]
 exact List.length_filter_le _ _
def NS.later (S:NS) (d:Int):NS:={ S with now:=S.now + d.toNat,ref:=min 4 (S.ref + min d.toNat 4) }
theorem NI.later {S:NS} (h:NI S) {d:Int} (hd:¬ (d < 1∨549755813888 - S.now < d)):NJ (S.later d) :=
 ⟨h.gt,h.wf,h.ids,h.dP,h.len,h.kj,h.has,h.mS,by show S.now + d.toNat≤549755813888;omega,h.lJ,by show min 4 _≤4;omega⟩
def NS.ended (S:NS) (d:Int):List Int:=bj S.bb (S.now + d.toNat + 1)
theorem NI.rS {S:NS} (h:NI S) {d:Int} (hd:¬ (d < 1∨549755813888 - S.now < d)):∃ es,((S.ended d).foldl cj (S.later d,[])).2=es∧lK (S.later d) ((S.ended d).foldl cj (S.later d,[])).1 (S.ended d) es∧NI ((S.ended d).foldl cj (S.later d,[])).1∧es.length≤48:=by
 obtain ⟨es,e,hE⟩:=Nz (h.later hd) (S.ended d)
 refine ⟨es,e,hE,⟨hE.nj,fun q hq=>?_⟩,?_⟩
 ·rw[hE.fl]at hq
  obtain ⟨nN,lQ⟩:=List.mem_filter.1 hq
  have mQ:=h.due q nN
  rw[hE.now]
  have hn:(S.later d).now=S.now + d.toNat:=rfl
  rw[hn]
  have NA:q.1 ∉ S.ended d:=fun hm=>by
   rw[List.contains_iff_mem.2 hm]at lQ;cases lQ
  have:¬ q.2.due.toNat < S.now + d.toNat + 1:=fun hlt=>NA (DZ.2 ⟨⟨q.1,q.2.due.toNat⟩,List.mem_map.2 ⟨q,nN,rfl⟩,hlt,rfl⟩)
  omega
 ·refine Nat.le_trans hE.len (Nat.le_trans (Vy _ _) ?_)
  unfold NS.bb
  rw[List.length_map];exact h.len
theorem A7 (S:NS) (d:Int):S.tick d=if d < 1∨549755813888 - S.now < d then (bS 2,S) else (⟨0,[],false,jD S.told ((S.ended d).foldl cj (S.later d,[])).2⟩,(((S.ended d).foldl cj (S.later d,[])).1.log ((S.ended d).foldl cj (S.later d,[])).2)):=rfl
theorem NI.tick {S:NS} (h:NI S) (d:Int):NI (S.tick d).2∧jZ S (S.tick d).2 0 48:=by
 rw[A7]
 split
 ·exact ⟨h,jZ.refl ..⟩
 ·rename_i hd
  obtain ⟨es,e,hE,hN,hl⟩:=h.rS hd
  rw[e]
  refine ⟨hN.ko _,⟨?_,?_,hE.aF,hE.loose⟩⟩
  ·show NS.b7 (List.foldl cj (S.later d,[]) (S.ended d)).1≤_
   rw[hE.nx];show S.b7≤_;omega
  ·show NS.told (List.foldl cj (S.later d,[]) (S.ended d)).1 + es.length≤_
   rw[hE.told];show S.told + _≤_;omega
theorem NI.uV {S:NS} (h:NI S) (a:Int) (to:Bool):NI { S with tb:={ S.tb with aq:=(S.tb.aq.drain a to).1 } } :=
 ⟨⟨h.gt.drain a to,⟨ay.dZ _ h.wf.aq a to,h.wf.home⟩,h.ids,h.dP,h.len,h.kj,h.has,h.mS,h.now,h.lJ,h.ref⟩,h.due⟩
theorem NK.of {S S':NS} (h:NK S) (ha:S.aF < 300) (hn:NI S') (hc:jZ { S with aF:=S.aF + 1 } S' 2 64):NK S' :=
 ⟨hn,by have h1:=hc.nx;have h2:=hc.act;have h3:=h.nx;have h1:S'.b7≤S.b7 + 2:=h1;rw[h2];show S'.b7≤2 * ((S.aF + 1:Nat):Int);omega,
  by have h1:=hc.qb;have h2:=hc.act;have h3:=h.qb;have h1:S'.told≤S.told + 64:=h1;rw[h2];show S'.told≤64 * (S.aF + 1);omega,
  by rw[hc.act];exact ha⟩
theorem jZ.up {S S':NS} {a b a' b':Nat} (h:jZ S S' a b) (h1:a≤a') (h2:b≤b'):jZ S S' a' b':=⟨by have:=h.nx;omega,by have:=h.qb;omega,h.act,h.loose⟩
theorem NK.step {S:NS} (h:NK S) (a:Ac):NK (S.step a).2:=by
 unfold NS.step
 split
 ·exact h
 rename_i ha
 have ha:S.aF < 300:=by omega
 have h1:=h.toNI.eD (S.aF + 1)
 dsimp only
 split
 ·exact h.of ha (h1.out a.frame a.draw).1 ((h1.out a.frame a.draw).2.up aP aP)
 split
 ·exact h.of ha (h1.aR a.frame).1 ((h1.aR a.frame).2.up aP aP)
 split
 ·exact h.of ha (h1.tick a.n).1 ((h1.tick a.n).2.up aP aP)
 split
 ·split
  ·exact h.of ha (h1.uV a.n _) ⟨by show S.b7≤S.b7 + (2:Nat);omega,by show S.told≤S.told + 64;omega,rfl,rfl⟩
  ·exact h.of ha h1 (jZ.refl ..)
 ·exact h.of ha h1 (jZ.refl ..)
theorem NK.new (b:Bool):NK (NS.new b):=by
 refine ⟨⟨⟨Ye2,Ycq,by simp[NS.new],by simp[NS.new],by simp[NS.new],by simp[NS.new],by simp[NS.new],by simp[NS.new],by simp[NS.new],by simp[NS.new],by simp[NS.new]⟩,by simp[NS.new]⟩,by simp[NS.new],by simp[NS.new],by simp[NS.new]⟩
end Go.Proofs.YtogckmommodmhaaGreatDoor
