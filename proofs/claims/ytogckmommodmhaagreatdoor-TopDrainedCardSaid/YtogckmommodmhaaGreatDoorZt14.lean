import Derived.Test.YtogckmommodmhaaGreatDoorZt5
import Derived.Test.YtogckmommodmhaaGreatDoorZt4
import Derived.Test.YtogckmommodmhaaGreatDoorZt11
import Derived.Test.YtogckmommodmhaaGreatDoorZt8
import Derived.Test.YtogckmommodmhaaGreatDoorZt12
import Derived.Test.YtogckmommodmhaaGreatDoorZt9
import Derived.Test.YtogckmommodmhaaGreatDoorZt13
import Derived.Test.YtogckmommodmhaaGreatDoorChecked
import Derived.KernelRfl
import Derived.Test.YtogckmommodmhaaGreatDoorRows
set_option maxHeartbeats 16000000
namespace Go.Proofs.YtogckmommodmhaaGreatDoor
open Go.RowKit
set_option linter.all false
set_option linter.unusedSimpArgs false
set_option maxRecDepth 100000
structure Ev where
 t:Int
 s:Int
 a:Int
 b:Int
 f:Bool
def Ev.enc (e:Ev):List AV:=[.int .i64 e.t,.int .i64 e.s,.int .i64 e.a,.int .i64 e.b,.bool e.f]
def Zn (l:List Ev):List AV:=l.flatMap Ev.enc
theorem Eo (l:List Ev):(Zn l).length=l.length * 5:=by
 induction l with
 | nil=>rfl
 | cons e l ih=>simp[Zn,Ev.enc]at ih ⊢;omega
theorem UY (l:List Ev) (k:Nat) (h:k < l.length):((Zn l).drop (k * 5)).take 5=(l[k]).enc:=by
 induction l generalizing k with
 | nil=>simp at h
 | cons e l ih =>
  cases k with
  | zero=>simp[Zn,Ev.enc]
  | succ k =>
   have:=ih k (by simpa using h)
   have e1:Zn (e::l)=e.enc++Zn l:=by simp[Zn]
   rw[e1,List.drop_append,List.drop_eq_nil_of_le (by simp[Ev.enc];omega)]
   have e2:(k + 1) * 5 - e.enc.length=k * 5:=by simp[Ev.enc];omega
   rw[e2];simpa using this
theorem Xuk (l:List Ev) (i:Nat) (h:i < l.length) (j:Nat) (hj:j < 5):(Zn l).getD (i * 5 + j) .any=l[i].enc.getD j .any:=by
 have:=UY l i h
 rw[← this,QK hj]
theorem uF (n:Nat) (l:List Ev):ai n (Zn l):=by
 rw[Xj]
 intro x hx
 obtain ⟨e,_,he⟩:=List.mem_flatMap.1 hx
 simp[Ev.enc]at he
 rcases he with rfl|rfl|rfl|rfl|rfl<;>simp[Qe]
theorem Xye (n:Nat) (l:List Ev):ai n (Zn l)=True:=eq_true (uF n l)
theorem Xky (ρ:Nat→Nat) (l:List Ev):ay ρ (Zn l)=Zn l:=by
 rw[Yf]
 refine (List.map_congr_left (g:=id) fun x hx=>?_).trans (List.map_id _)
 obtain ⟨e,_,he⟩:=List.mem_flatMap.1 hx
 simp[Ev.enc]at he
 rcases he with rfl|rfl|rfl|rfl|rfl<;>simp[aD]
attribute [go_sem] Xye Xky Eo
def Ybw (o:List Int) (e:Ev):Option (List Int) × Int :=
 if Ul e.t e.s e.a e.b=false then (none,2)
 else
  let i:=(e.a * 6 + e.b).toNat
  if e.f=false∧o.getD i 0≠0 then (none,8)
  else if e.f=true∧o.getD i 0≠e.s + 1 then (none,7)
  else (some (o.set i (if e.f then 0 else e.s + 1)),0)
def Ycn:List Int→List Ev→List Int × Int
 | o,[]=>(o,0)
 | o,e::l=>match Ybw o e with
  | (some o',_)=>Ycn o' l
  | (none,k)=>(List.replicate 18 0,k)
def Bj (e:Ev):List UInt8:=be e.t 8++be (167772161 + e.s) 4++be (3405803777 + e.a) 4++be (1024 + 8 * e.b) 2++be (1031 + 8 * e.b) 2++be (if e.f then 2 else 1) 1
theorem Xyz (e:Ev):(Bj e).length=21:=by simp[Bj,Qi]
def lR (l:List Ev):List UInt8:=l.flatMap Bj
theorem HE (l:List Ev):(lR l).length=21 * l.length:=by
 induction l with
 | nil=>rfl
 | cons e l ih=>simp[lR,Xyz]at ih ⊢;omega
theorem Xk3 (l:List Ev) (k:Nat) (h:k < l.length):lR (l.take (k + 1))=lR (l.take k)++Bj l[k]:=by
 rw[List.take_add_one,List.getElem?_eq_getElem h]
 simp only[lR,List.flatMap_append,Option.toList_some,List.flatMap_cons,List.flatMap_nil,List.append_nil]
def vZ (t0:Int) (l:List Ev):Bool:=l.all fun e=>Ul e.t e.s e.a e.b && e.t == t0
def v7 (seq:Int):List Ev→AV
 | []=>.aX [.str [],.int .i64 7]
 | e::l=>if 64 < l.length + 1 then .aX [.str [],.int .i64 6] else if vZ e.t (e::l)=true then lA seq e.t 300 (lR (e::l)) else .aX [.str [],.int .i64 2]
theorem Yae (n:Nat) (seq time set:Int) (bs:List UInt8):Qe n (lA seq time set bs):=by unfold lA;split<;>simp[Qe,ai]
theorem Xvy (n:Nat) (seq:Int) (l:List Ev):Qe n (v7 seq l):=by
 unfold v7
 split
 ·simp[Qe,ai]
 ·split
  ·simp[Qe,ai]
  ·split
   ·exact Yae _ _ _ _ _
   ·simp[Qe,ai]
theorem Xvl:FT Tryz.prog 92 Tryz.f92 (aO Tryz.prog Tryz.f92) [.t 2]:=.of Tryz.func92
theorem Xzl:FT Tryz.prog 130 Tryz.f130 (aO Tryz.prog Tryz.f130) [.t 4]:=.of Tryz.func130
theorem Xy3:FT Tryz.prog 132 Tryz.f132 (aO Tryz.prog Tryz.f132) [.cell 8 (.ag 10)]:=.of Tryz.func132
theorem Xrl:FT Tryz.prog 87 Tryz.f87 (aO Tryz.prog Tryz.f87) [.t 2]:=.of Tryz.func87
def Ki (ae st:Int):Int:=if ae=1 then 8 else if ae=17 then 20 else if st=2 then 60 else if st=1 then 4 else 6
theorem UZ (gl:Nat→AV) (ae st:Int):PS Tryz.prog gl 130 [.int .i64 ae,.int .i64 st] (.int .i64 (Ki ae st)):=by
 refine Xzl.ps (of_decide_eq_true rfl) (by simp[Qe]) fun c hN hg=>?_
 conv in aO _ _=>cbv
 (refine XG ?_;((try (repeat' with_reducible refine And.intro ?_ ?_));(try any_goals (first|refine zm ?_|exact CL|fail))))
 (refine Qa (fun h1=>?_) (fun h1=>?_)<;>try exact h1.elim)
 ·(refine XG ?_;((try (repeat' with_reducible refine And.intro ?_ ?_));(try any_goals (first|refine zm ?_|exact CL|fail))))
  simp_all [Ki]
 (refine XG ?_;((try (repeat' with_reducible refine And.intro ?_ ?_));(try any_goals (first|refine zm ?_|exact CL|fail))))
 (refine Qa (fun h2=>?_) (fun h2=>?_)<;>try exact h2.elim)
 ·(refine XG ?_;((try (repeat' with_reducible refine And.intro ?_ ?_));(try any_goals (first|refine zm ?_|exact CL|fail))))
  simp_all [Ki]
 (refine XG ?_;((try (repeat' with_reducible refine And.intro ?_ ?_));(try any_goals (first|refine zm ?_|exact CL|fail))))
 (refine Qa (fun h3=>?_) (fun h3=>?_)<;>try exact h3.elim)
 ·(refine XG ?_;((try (repeat' with_reducible refine And.intro ?_ ?_));(try any_goals (first|refine zm ?_|exact CL|fail))))
  simp_all [Ki]
 (refine XG ?_;((try (repeat' with_reducible refine And.intro ?_ ?_));(try any_goals (first|refine zm ?_|exact CL|fail))))
 (refine Qa (fun h4=>?_) (fun h4=>?_)<;>try exact h4.elim)
 ·(refine XG ?_;((try (repeat' with_reducible refine And.intro ?_ ?_));(try any_goals (first|refine zm ?_|exact CL|fail))))
  simp_all [Ki]
 ·(refine XG ?_;((try (repeat' with_reducible refine And.intro ?_ ?_));(try any_goals (first|refine zm ?_|exact CL|fail))))
  simp_all [Ki]
def oS (ae st sd du fl:Int) (cg:Bool) (now:Int):Int × Int × Int :=
 let b (n:Int):=bits .and .i64 fl n
 let side:Int:=if cg then 1 else 0
 let x:Int × Int × Bool:=if ae=6 then
   (if b 4≠0 then (4,sd,st != 4) else if st=1∧cg=true∧b 18=18 then (2,sd,true) else if st=2∧b 1≠0 then (3,side,true)
    else if st=3∧b 1≠0∧sd≠side then (4,sd,true) else if st=1 then (st,sd,!cg && b 2 != 0) else (st,sd,st == 2))
  else (st,sd,!(cg && ae == 17))
 (x.1,x.2.1,if x.2.2 then IntKind.i64.wrap (now + Ki ae x.1) else du)
def Up (p s i a pt r rp st sd du:Int):List AV:=[.int .i64 p,.int .i64 s,.int .i64 i,.int .i64 a,.int .i64 pt,.int .i64 r,.int .i64 rp,.int .i64 st,.int .i64 sd,.int .i64 du]
theorem U0 (gl:Nat→AV) (p s i a pt r rp st sd du:Int) (f1 f2 f3 f4 f5 f6 f7 fl f9 f10 f11:Int) (bd:List UInt8) (cg:Bool) (now:Int) :
  PS Tryz.prog gl 132 [.agg (Up p s i a pt r rp st sd du),.agg [.int .i64 f1,.int .i64 f2,.int .i64 f3,.int .i64 f4,.int .i64 f5,.int .i64 f6,.int .i64 f7,.int .i64 fl,.int .i64 f9,.int .i64 f10,.int .i64 f11,.str bd],.bool cg,.int .i64 now]
   (.agg (Up p s i a pt r rp (oS p st sd du fl cg now).1 (oS p st sd du fl cg now).2.1 (oS p st sd du fl cg now).2.2)):=by
 refine Xy3.ps (of_decide_eq_true rfl) (by simp[Qe,ai,Up]) fun c hN hg=>?_
 conv in aO _ _=>cbv
 (have aB:=@Up.eq_1;refine XG ?_;clear aB;((try (repeat' with_reducible refine And.intro ?_ ?_));(try any_goals (first|refine zm ?_|exact CL|fail))))
 (repeat' (first|((refine Qa (fun hh=>?_) (fun hh=>?_)<;>try exact hh.elim)<;>(have aB:=@Up.eq_1;refine XG ?_;clear aB;((try (repeat' with_reducible refine And.intro ?_ ?_));(try any_goals (first|refine zm ?_|exact CL|fail)))))|((first|apply Yx|apply Ym|apply Xz|apply Xs)<;>(first|exact (UZ _ _ _)|(have aB:=@Up.eq_1;refine XG ?_;clear aB;first|exact rfl|exact True.intro|((try (repeat' with_reducible refine And.intro ?_ ?_));(try any_goals (first|refine zm ?_|exact CL|fail))))))))
 all_goals simp_all [oS]
 all_goals (split<;>simp_all)
structure Fl where
 map:Mp
 rem:Int
 rport:Int
 st:Int
 side:Int
 due:Int
 deriving DecidableEq
def Fl.enc (f:Fl):List AV:=Up f.map.ae f.map.s f.map.aN f.map.a f.map.port f.rem f.rport f.st f.side f.due
structure Rp where
 code:Int
 frame:List UInt8
 inner:Bool
 log:List UInt8
def Rp.enc (r:Rp):List AV:=[.int .i64 r.code,.str r.frame,.bool r.inner,.str r.log]
def bR (e:Int):Rp:=⟨e,[],false,[]⟩
structure Ac where
 kind:Int
 n:Int
 draw:Int
 frame:List UInt8
def Ac.enc (a:Ac):List AV:=[.int .i64 a.kind,.int .i64 a.n,.int .i64 a.draw,.str a.frame]
structure NS where
 tb:Tb
 fl:List (Int × Fl)
 b8:Int
 now:Nat
 told:Nat
 ref:Nat
 aF:Nat
 loose:Bool
def NS.keys (S:NS):List Int:=S.fl.map (·.1)
def NS.a6 (S:NS):List Tm:=S.fl.map fun q=>⟨q.1,q.2.due.toNat⟩
def NS.findF (S:NS) (m:Mp) (r rp:Int):Int:=match S.fl.find? (fun q=>decide (q.2.map=m) && q.2.rem == r && q.2.rport == rp) with
 | some q=>q.1
 | none=>0
def Fl.next (f:Fl) (p:Pk) (cg:Bool) (now:Int):Fl :=
 let x:=oS f.map.ae f.st f.side f.due p.flags cg now
 { f with st:=x.1,side:=x.2.1,due:=x.2.2 }
def NS.goes (S:NS) (k:Int) (p:Pk) (cg:Bool):NS:={ S with fl:=S.fl.map fun q=>if q.1=k then (q.1,q.2.next p cg S.now) else q }
def NS.begin (S:NS) (f:Fl):NS:={ S with b8:=S.b8 + 1,fl:=S.fl++[(S.b8 + 1,{ f with due:=S.now + Ki f.map.ae f.st })] }
def NS.ev (S:NS) (m:Mp) (free:Bool):Ev:=⟨S.now,m.s,m.a,Xx m.port,free⟩
def pZ (told:Nat) (l:List Ev):List UInt8:=if l=[] then [] else (if told=0 then pD 0 0 2 (Uy 6) else [])++pD told (l.headD ⟨0,0,0,0,false⟩).t 300 (lR l)
def NS.log (S:NS) (l:List Ev):NS:={ S with told:=S.told + l.length }
def Yq (f:List UInt8) (side addr port:Int):List UInt8 :=
 if bP f≠0 then [] else if Un (az f) side addr port≠0 then [] else Yn f (az f).ae (az f).av (oC side) (oD (az f).ae side) addr port
def NS.refuse (S:NS) (f:List UInt8) (e:Int):Rp × NS :=
 if S.ref=0∨bP f≠0 then (bR e,S) else (⟨e,kC f (w4 f 12) S.ref,true,[]⟩,{ S with ref:=S.ref - 1 })
def NS.aN (S:NS) (f:List UInt8):Rp × NS :=
 if bP f≠0 then (bR (bP f),S) else
 let p:=az f
 let a:=p.dst - 3405803777
 if a < 0∨3≤a then (bR 7,S) else
 if p.ae=1∧p.flags≠0 then (bR 4,S) else
 if p.av=1 then (bR 12,S) else
 match S.tb.maps.find? (Je p.ae a p.aj) with
 | none=>(bR 7,S)
 | some m =>
  let go:Rp:=⟨0,Yq f 1 (167772161 + m.s) m.aN,true,[]⟩
  if S.findF m p.aA p.ah≠0 then (go,S.goes (S.findF m p.aA p.ah) p true) else
  if S.loose=false∧(S.fl.any fun q=>decide (q.2.map=m) && q.2.rem == p.aA)=false then (bR 11,S) else
  if p.ae≠17∨48≤S.fl.length then (bR 11,S) else
  (go,S.begin ⟨m,p.aA,p.ah,2,0,0⟩)
def NS.en (S:NS) (f:List UInt8) (m:Mp) (es:List Ev):Rp × NS :=
 let g:=Yq f 0 (3405803777 + m.a) m.port
 let S1:=S.log es
 let to:=(az f).dst - 3405803777
 if 0≤to∧to < 3 then
  let x:=S1.aN g
  ({ x.1 with log:=pZ S.told es },x.2)
 else (⟨0,g,false,pZ S.told es⟩,S1)
def rz (ae:Int):Int:=if ae=6 then 1 else 2
def yJ (ae flags:Int):Bool :=
 if ae=17 then true else if ae=1 then flags == 8 else decide (ae=6) && bits .and .i64 flags 23 == 2
noncomputable def NS.out (S:NS) (f:List UInt8) (draw:Int):Rp × NS :=
 if bP f≠0 then (bR (bP f),S) else
 let p:=az f
 let s:=p.aA - 167772161
 if s < 0∨8≤s then (bR 7,S) else
 if p.ae=1∧p.flags≠8 then (bR 4,S) else
 if p.av=1 then (bR 12,S) else
 let k:=match S.tb.maps.find? (Ze p.ae s p.ah) with
  | some m=>S.findF m p.dst p.aj
  | none=>0
 if k≠0 then
  match S.tb.maps.find? (Ze p.ae s p.ah) with
  | some m=>(S.goes k p false).en f m []
  | none=>(bR 0,S)
 else
  if yJ p.ae p.flags=false then (bR 11,S) else
  if 48≤S.fl.length then S.refuse f 6 else
  let o:=S.tb.cx p.ae s p.ah draw
  if o.2.2.2≠0 then S.refuse f o.2.2.2 else
  let S1:NS:={ S with tb:=o.1 }
  (S1.begin ⟨o.2.1,p.dst,p.aj,rz p.ae,0,0⟩).en f o.2.1 (if o.2.2.1 then [S1.ev o.2.1 false] else [])
noncomputable def cr (x:NS × List Ev) (k:Int):NS × List Ev :=
 match x.1.fl.find? (fun q=>q.1 == k) with
 | none=>x
 | some q =>
  let S1:NS:={ x.1 with fl:=x.1.fl.filter fun r=>!(r.1 == k) }
  if (S1.fl.any fun r=>decide (r.2.map=q.2.map)) then (S1,x.2) else
  let c:=S1.tb.cls q.2.map
  ({ S1 with tb:=c.1 },if c.2.1 then x.2++[S1.ev q.2.map true] else x.2)
noncomputable def NS.tick (S:NS) (d:Int):Rp × NS :=
 if d < 1∨549755813888 - S.now < d then (bR 2,S) else
 let S1:NS:={ S with now:=S.now + d.toNat,ref:=min 4 (S.ref + min d.toNat 4) }
 let x:=(bf S.a6 (S.now + d.toNat + 1)).foldl cr (S1,[])
 (⟨0,[],false,pZ S.told x.2⟩,x.1.log x.2)
noncomputable def NS.step (S:NS) (a:Ac):Rp × NS :=
 if 300≤S.aF then (bR 6,S) else
 let S:NS:={ S with aF:=S.aF + 1 }
 if a.kind=1 then S.out a.frame a.draw else
 if a.kind=2 then S.aN a.frame else
 if a.kind=3 then S.tick a.n else
 if a.kind=4∨a.kind=5 then
  let d:=S.tb.aq.drain a.n (decide (a.kind=4))
  (bR d.2,if d.2=0 then { S with tb:={ S.tb with aq:=d.1 } } else S)
 else (bR 4,S)
def NS.new (loose:Bool):NS:=⟨⟨⟨List.replicate 18 0,List.replicate 3 false⟩,List.replicate 8 0,[]⟩,[],0,0,0,4,0,loose⟩
theorem Xl3 {h:List (Nat × Bk)} {n b:Nat} (hb:∀ q ∈ h,q.1≠b):Qc h n b=if b < n then .dead else .free:=by
 have:=Xm (h:=[]) (n:=n) (j:=b) hb
 rw[List.append_nil]at this
 rw[this];rfl
section
variable {h h0 h1 ex ex':List (Nat × Bk)} {m n n' b:Nat}
theorem HL.hi (H:HL h m) (n b:Nat) (hb:m≤b):Qc h n b=if b < n then .dead else .free:=Xl3 fun q hq e=>by have:=(H.mem q hq).1;omega
theorem HL.lo (H:HL h m) (hb:b < m) (n:Nat):Qc h n b=Qc h m b:=(H.live hb n).1
theorem HL.nm (H:HL h m) (hb:b < m):bG m (Qc h m b):=by
 obtain ⟨_,q,hq,_,e⟩:=H.live hb m
 rw[e];exact (H.mem q hq).2
theorem HL.lv (H:HL h m) (hb:b < m):(Qc h m b).live:=Xf (H.nm hb)
theorem HL.lives (H:HL h m):∀ q ∈ h,q.2.live:=fun q hq=>Xf (H.mem q hq).2
theorem HL.more (H:HL h m) {x:Bk} (hx:bG (m + 1) x):HL ((m,x)::h) (m + 1) where
 mem q hq:=by
  rcases List.mem_cons.1 hq with rfl|hq
  ·exact ⟨Nat.lt_succ_self _,hx⟩
  ·exact ⟨by have:=(H.mem q hq).1;omega,nH (Nat.le_succ m) (H.mem q hq).2⟩
 fN b hb:=by
  by_cases e:b=m
  ·exact ⟨_,List.mem_cons_self,e.symm⟩
  ·obtain ⟨q,hq,e2⟩:=H.fN b af
   exact ⟨q,List.mem_cons_of_mem _ hq,e2⟩
 self q hq:=by
  rcases List.mem_cons.1 hq with rfl|hq
  ·rw[Qd,if_pos rfl]
  ·have:=(H.mem q hq).1
   rw[Qd,if_neg af,H.lo this,H.self q hq]
theorem To.mV {p:List Nat} {t t':List (Nat × AV)} (ρ:Nat→Nat) (H:HL h m) (hp:∀ b ∈ p,ρ b=b∧b < m) (bT:∀ b b',b < m→b' < m→ρ b=ρ b'→b=b') (hl:∀ b,b < m→Qc h0 n (ρ b)=Xg ρ (Qc h m b)) (ht:Qu ρ m t t'):To p ⟨t,h0,n⟩ ⟨t',h,m⟩:=by
 refine To.lk ρ hp (fun b dg=>?_) (fun b hb lJ=>(lJ (H.lv hb)).elim) (fun b hb=>(H.hi m b hb).trans (if_neg (by have hb:m≤b:=hb;show ¬ b < m;omega))) (fun b b' hb bJ _ _ e=>bT b b' hb bJ e) (fun b hb dg=>⟨H.nm hb,hl b hb⟩) ht
 by_cases hb:b < m
 ·exact hb
 ·have dg:(Qc h m b).live:=dg
  rw[H.hi m b af,if_neg hb]at dg
  exact dg.elim
theorem To.drop {p:List Nat} {t t':List (Nat × AV)} (H:HL h m) (hex:∀ q ∈ ex,m≤q.1) (hp:∀ b ∈ p,b < m) (ht:Qu id m t t'):To p ⟨t,ex++h,n⟩ ⟨t',h,m⟩ :=
 To.mV id H (fun b hb=>⟨rfl,hp b hb⟩) (fun b b' _ _ e=>e) (fun b hb=>by
  rw[Ws]
  show Qc (ex++h) n b=_
  rw[Xm fun q hq e=>by have:=hex q hq;omega,H.lo hb]) ht
theorem To.home {p:List Nat} {t t':List (Nat × AV)} {σ:Nat→Nat} (H:HL h m) (bT:∀ b b',b < m→b' < m→σ b=σ b'→b=b') (hex:∀ q ∈ ex,jB σ m q.1) (hp:∀ b ∈ p,σ b=b∧b < m) (ht:Qu σ m t t'):To p ⟨t,ex++Xc σ h,n⟩ ⟨t',h,m⟩ :=
 To.mV σ H hp bT (fun b hb=>by
  rw[Xm fun q hq e=>hex q hq b hb e.symm]
  exact Kk bT hb (fun q hq=>(H.mem q hq).1) (H.fN b hb)) ht
def lw (σ:Nat→Nat) (m b:Nat):Nat:=if b < m then σ b else b
theorem Bl {σ:Nat→Nat} (h:b < m):lw σ m b=σ b:=if_pos h
theorem Ep {σ:Nat→Nat} (h:m≤b):lw σ m b=b:=if_neg (by omega)
theorem To.mid {p:List Nat} {t t':List (Nat × AV)} {σ:Nat→Nat} {k:Nat} (H:HL h m) (H':HL (ex'++h) k) (S5:m≤k) (kj:∀ q ∈ ex',m≤q.1) (bT:∀ b b',b < m→b' < m→σ b=σ b'→b=b') (hex:∀ q ∈ ex,jB σ m q.1) (dY:∀ b,b < m→∀ b',m≤b'→b' < k→σ b≠b')
  (hp:∀ b ∈ p,lw σ m b=b∧b < k) (hl:∀ b,m≤b→b < k→Qc (ex++Xc σ h) n b=Xg (lw σ m) (Qc (ex'++h) k b)) (ht:Qu (lw σ m) k t t'):To p ⟨t,ex++Xc σ h,n⟩ ⟨t',ex'++h,k⟩:=by
 refine To.mV (lw σ m) H' hp (fun b b' hb bJ e=>?_) (fun b hb=>?_) ht
 ·by_cases h1:b < m<;>by_cases h2:b' < m
  ·rw[Bl h1,Bl h2]at e;exact bT _ _ h1 h2 e
  ·rw[Bl h1,Ep af]at e;exact (dY b h1 b' af bJ e).elim
  ·rw[Ep af,Bl h2]at e;exact (dY b' h2 b af hb e.symm).elim
  ·rw[Ep af,Ep af]at e;exact e
 ·by_cases h1:b < m
  ·rw[Bl h1,Xm fun q hq e=>hex q hq b h1 e.symm,Kk bT h1 (fun q hq=>(H.mem q hq).1) (H.fN b h1),Xm fun q hq e=>by have:=kj q hq;omega,H.lo h1 k]
   exact Wv (g:=lw σ m) (fun b hb=>(Bl hb).symm) (H.nm h1)
  ·rw[Ep af];exact hl b af hb
theorem NC {f g:Nat→Nat} (H:HL h m) (e:∀ b,b < m→f b=g b):Xc f h=Xc g h:=by
 unfold Xc
 exact List.map_congr_left fun q hq=>by
  obtain ⟨h1,h2⟩:=H.mem q hq
  rw[e q.1 h1,Wv e h2]
end
theorem Xzp {σ:Nat→Nat} {p:List Nat} {m n b':Nat} (hσ:∀ b,b < m→b ∈ p→σ b≠b') (bJ:b' < n):∀ b,b < m→cC σ p n b≠b':=fun b hb e=>by
 by_cases h:b ∈ p
 ·rw[Wm h]at e;exact hσ b hb h e
 ·rw[Wp h]at e;omega
theorem U1 {m n b:Nat} (hb:b < m):cC id (List.range m) n b=b:=Wm (List.mem_range.2 hb)
section
variable {P:Program} {c:Cx} {h h1 ex:List (Nat × Bk)} {m n:Nat} {v:Bool} {d:Option Nat} {kk:PK} {f:FuncId} {xs:List TV} {args:List AV} {r:AV} {t:List (Nat × AV)} {r0:List bF} {K:St→Prop}
theorem Bm {p:List Nat} (H:HL h m) (hn:m≤n) (hp:∀ b ∈ p,b < m) (hex:∀ q ∈ ex,m≤q.1∧q.1 < n) (hc:Qv none (aG c.gl (⟨t,ex++h,n⟩:St).fs xs)∧mK v f ((aG c.gl (⟨t,ex++h,n⟩:St).fs xs).map Qk)=some (f,args)∧ai m args) :
  oB c.gl xs v f args id p m t ex h n:=by
 refine ⟨fun b b' _ _ e=>e,fun b hb=>by show b < n;omega,H,hp,fun q hq=>⟨fun b hb e=>by have:=(hex q hq).1;have e:b=q.1:=e;omega,(hex q hq).2⟩,?_,?_,hc.2.2⟩
 ·rw[Kj];exact hc.1
 ·rw[Kj,Jp];exact hc.2.1
theorem HF (H1:HL h1 m) (hr:Qe m r):Zq t ex h1 id (List.range m) m n d r=St.bQ ⟨t,ex++h1,n + m⟩ d r:=by
 have e:aD (cC id (List.range m) n) r=r:=uw (n:=m) (fun b hb=>U1 hb) r hr
 unfold Zq
 rw[NC H1 (f:=cC id (List.range m) n) (g:=id) fun b hb=>U1 hb,Kj,e]
theorem Xw (f:FuncId) (l:List AV):mK false f l=some (f,l):=rfl
theorem oT (hq:GD P c.gl f args h m (List.range m) r h1) (H:HL h m) (H1:HL h1 m) (hr:Qe m r) (hn:m≤n) (hex:∀ q ∈ ex,m≤q.1∧q.1 < n) (hk:kk=(bif v then .cu else .call f))
  (hc:Qv none (aG c.gl (⟨t,ex++h,n⟩:St).fs xs)∧mK v f ((aG c.gl (⟨t,ex++h,n⟩:St).fs xs).map Qk)=some (f,args)∧ai m args) (hx:XP P c r0 K (St.bQ ⟨t,ex++h1,n + m⟩ d r)):Yl P c (.pd d kk xs none) r0 K ⟨t,ex++h,n⟩:=by
 have:=Lu (d:=d) (r0:=r0) (K:=K) hq (Bm (v:=v) H hn (fun b hb=>List.mem_range.1 hb) hex hc) hk H1 hr (by rw[HF H1 hr];exact hx)
 rw[Kj]at this;exact this
theorem HH {p:List Nat} {anc:List Nat} {fs:List bq} (hq:GD P c.gl f args h m p r h1) (H:HL h m) (H1:HL h1 m) (hr:Qe m r) (hn:m≤n) (hp:∀ b ∈ p,b < m) (hex:∀ q ∈ ex,m≤q.1∧q.1 < n) (hk:kk=(bif v then .cu else .call f))
  (hc:Qv none (aG c.gl (⟨t,ex++h,n⟩:St).fs xs)∧mK v f ((aG c.gl (⟨t,ex++h,n⟩:St).fs xs).map Qk)=some (f,args)∧ai m args) (hx:XD P c anc r0 (⟨Xp xs,ib id m n,d.toList,ib id m n⟩::fs) K (Zq t ex h1 id p m n d r)):Zr P c anc (.pd d kk xs none) r0 fs K ⟨t,ex++h,n⟩:=by
 have:=Df (d:=d) (anc:=anc) (fs:=fs) (r0:=r0) (K:=K) hq (Bm (v:=v) H hn hp hex hc) hk H1 hr hx
 rw[Kj]at this;exact this
theorem Uu {p pp:List Nat} {s3:St} (aY:∀ q ∈ c.gh,q.1 ∈ pp) (hq:GD P c.gl f args h m p r h1) (H:HL h m) (H1:HL h1 m) (hr:Qe m r) (hn:m≤n) (hp:∀ b ∈ p,b < m) (hex:∀ q ∈ ex,m≤q.1∧q.1 < n) (hk:kk=(bif v then .cu else .call f))
  (hc:Qv none (aG c.gl (⟨t,ex++h,n⟩:St).fs xs)∧mK v f ((aG c.gl (⟨t,ex++h,n⟩:St).fs xs).map Qk)=some (f,args)∧ai m args) (il:To pp (Zq t ex h1 id p m n d r) s3) (hx:XP P c r0 K s3):Yl P c (.pd d kk xs none) r0 K ⟨t,ex++h,n⟩:=by
 have aU:=Bm (v:=v) H hn hp hex hc
 refine .inr fun ops io he g a w hR K' Q' hK=>?_
 have hA:=De (d:=d) hq aU hk H1 hr ops io he
 rw[Kj]at hA
 refine hA.step _ (fun _ _=>rfl) (fun _ _=>rfl) g a w hR K' Q' fun g2 a' w' bV=>?_
 rw[B9 hA.bf hA.da]at bV
 obtain ⟨g3,j9⟩:=il c g2 a' w' aY bV
 exact hK g3 s3 a' w' hx j9
end
def Yes (p q:Int × Fl):Prop:=p.2.map=q.2.map∧p.2.rem=q.2.rem∧p.2.rport=q.2.rport
structure NJ (S:NS):Prop where
 gt:GT S.tb
 wf:S.tb.wf
 ids:∀ q ∈ S.fl,1≤q.1∧q.1≤S.b8
 dM:S.fl.Pairwise fun p q=>p.1≠q.1
 len:S.fl.length≤48
 lS:∀ q ∈ S.fl,q.2.map ∈ S.tb.maps
 has:∀ m ∈ S.tb.maps,∃ q ∈ S.fl,q.2.map=m
 rA:S.fl.Pairwise fun p q=>¬ Yes p q
 now:S.now≤549755813888
 lT:0≤S.b8
 ref:S.ref≤4
structure NI (S:NS):Prop extends NJ S where
 due:∀ q ∈ S.fl,(S.now:Int) < q.2.due∧q.2.due≤S.now + 60
theorem NJ.ok {S:NS} (h:NJ S):S.tb.ok:=h.gt.ok h.wf
theorem HI (p s:Int):4≤Ki p s∧Ki p s≤60:=by
 unfold Ki
 (repeat' split)<;>omega
theorem U2 (ae st sd du fl:Int) (cg:Bool) {now:Int} (h0:0≤now) (h1:now≤549755813888):(oS ae st sd du fl cg now).2.2=du∨∃ d,4≤d∧d≤60∧(oS ae st sd du fl cg now).2.2=now + d:=by
 have key:∀ x:Int × Int × Bool,(if x.2.2=true then IntKind.i64.wrap (now + Ki ae x.1) else du)=du∨∃ d,4≤d∧d≤60∧(if x.2.2=true then IntKind.i64.wrap (now + Ki ae x.1) else du)=now + d:=fun x=>by
  split
  ·right
   have:=HI ae x.1
   refine ⟨Ki ae x.1,this.1,this.2,?_⟩
   rw[IntKind.wrap_i64]
   omega
  ·exact .inl rfl
 exact key _
theorem NJ.begin {S:NS} (h:NJ S) {tb:Tb} (hg:GT tb) (hw:tb.wf) (cq:∀ m ∈ S.tb.maps,m ∈ tb.maps) {f:Fl} (bN:∀ m ∈ tb.maps,m ∈ S.tb.maps∨m=f.map) (aI:f.map ∈ tb.maps) (b9:∀ q ∈ S.fl,¬ (q.2.map=f.map∧q.2.rem=f.rem∧q.2.rport=f.rport)) (hl:S.fl.length < 48):NJ (({ S with tb:=tb }:NS).begin f) where
 gt:=hg
 wf:=hw
 ids q hq:=by
  have h0:=h.lT
  rcases List.mem_append.1 hq with hq|hq
  ·have:=h.ids q hq
   show _∧q.1≤S.b8 + 1
   omega
  ·obtain rfl:=List.mem_singleton.1 hq
   show 1≤S.b8 + 1∧S.b8 + 1≤S.b8 + 1
   omega
 dM:=by
  refine List.pairwise_append.2 ⟨h.dM,by simp,fun p hp q hq=>?_⟩
  obtain rfl:=List.mem_singleton.1 hq
  have:=h.ids p hp
  show p.1≠S.b8 + 1
  omega
 len:=by
  show (S.fl++[_]).length≤48
  rw[List.length_append];simp;omega
 lS q hq:=by
  rcases List.mem_append.1 hq with hq|hq
  ·exact cq _ (h.lS q hq)
  ·obtain rfl:=List.mem_singleton.1 hq;exact aI
 has m hm:=by
  rcases bN m hm with h1|rfl
  ·obtain ⟨q,hq,e⟩:=h.has m h1
   exact ⟨q,List.mem_append_left _ hq,e⟩
  ·exact ⟨_,List.mem_append_right _ (List.mem_singleton.2 rfl),rfl⟩
 rA:=by
  refine List.pairwise_append.2 ⟨h.rA,by simp,fun p hp q hq=>?_⟩
  obtain rfl:=List.mem_singleton.1 hq
  exact b9 p hp
 now:=h.now
 lT:=by have:=h.lT;show 0≤S.b8 + 1;omega
 ref:=h.ref
theorem NI.begin {S:NS} (h:NI S) {tb:Tb} (hg:GT tb) (hw:tb.wf) (cq:∀ m ∈ S.tb.maps,m ∈ tb.maps) {f:Fl} (bN:∀ m ∈ tb.maps,m ∈ S.tb.maps∨m=f.map) (aI:f.map ∈ tb.maps) (b9:∀ q ∈ S.fl,¬ (q.2.map=f.map∧q.2.rem=f.rem∧q.2.rport=f.rport)) (hl:S.fl.length < 48):NI (({ S with tb:=tb }:NS).begin f) where
 toNJ:=h.toNJ.begin hg hw cq bN aI b9 hl
 due q hq:=by
  rcases List.mem_append.1 hq with hq|hq
  ·exact h.due q hq
  ·obtain rfl:=List.mem_singleton.1 hq
   have:=HI f.map.ae f.st
   show (S.now:Int) < S.now + Ki f.map.ae f.st∧(S.now:Int) + Ki f.map.ae f.st≤S.now + 60
   omega
theorem ND {S:NS} {k:Int} {p:Pk} {cg:Bool} {q:Int × Fl} (hq:q ∈ (S.goes k p cg).fl):∃ r ∈ S.fl,q.1=r.1∧q.2.map=r.2.map∧q.2.rem=r.2.rem∧q.2.rport=r.2.rport∧(q.2=r.2∨q.2=r.2.next p cg S.now):=by
 obtain ⟨r,hr,rfl⟩:=List.mem_map.1 hq
 refine ⟨r,hr,?_⟩
 split
 ·exact ⟨rfl,rfl,rfl,rfl,.inr rfl⟩
 ·exact ⟨rfl,rfl,rfl,rfl,.inl rfl⟩
theorem NI.goes {S:NS} (h:NI S) (k:Int) (p:Pk) (cg:Bool):NI (S.goes k p cg) where
 gt:=h.gt
 wf:=h.wf
 ids q hq:=by
  obtain ⟨r,hr,e,_⟩:=ND hq
  rw[e];exact h.ids r hr
 dM:=by
  refine List.pairwise_map.2 (h.dM.imp fun {a b} D4=>?_)
  (repeat' split)<;>exact D4
 len:=by show (S.fl.map _).length≤48;rw[List.length_map];exact h.len
 lS q hq:=by
  obtain ⟨r,hr,_,e,_⟩:=ND hq
  rw[e];exact h.lS r hr
 has m hm:=by
  obtain ⟨q,hq,e⟩:=h.has m hm
  refine ⟨_,List.mem_map.2 ⟨q,hq,rfl⟩,?_⟩
  split<;>exact e
 rA:=by
  refine List.pairwise_map.2 (h.rA.imp fun {a b} D4=>?_)
  (repeat' split)<;>exact D4
 now:=h.now
 lT:=h.lT
 ref:=h.ref
 due q hq:=by
  obtain ⟨r,hr,_,_,_,_,e⟩:=ND hq
  have hd:=h.due r hr
  rcases e with e|e
  ·rw[e];exact hd
  ·rw[e]
   rcases U2 r.2.map.ae r.2.st r.2.side r.2.due p.flags cg (now:=S.now) af (by have:=h.now;omega) with e2|⟨d,h1,h2,e2⟩
   ·show (S.now:Int) < (oS _ _ _ _ _ _ _).2.2∧(oS _ _ _ _ _ _ _).2.2≤S.now + 60
    rw[e2];exact hd
   ·show (S.now:Int) < (oS _ _ _ _ _ _ _).2.2∧(oS _ _ _ _ _ _ _).2.2≤S.now + 60
    rw[e2];omega
theorem NF {S:NS} {m:Mp} {r rp:Int} (h0:∀ q ∈ S.fl,1≤q.1) (h:S.findF m r rp=0):∀ q ∈ S.fl,¬ (q.2.map=m∧q.2.rem=r∧q.2.rport=rp):=by
 intro q hq ⟨e1,e2,e3⟩
 unfold NS.findF at h
 split at h
 ·rename_i x hx
  have:=h0 x (List.mem_of_find?_eq_some hx)
  omega
 ·rename_i hx
  have:=List.find?_eq_none.1 hx q hq
  simp[e1,e2,e3]at this
theorem NJ.cr {x:NS × List Ev} (h:NJ x.1) (k:Int):NJ (Proofs.YtogckmommodmhaaGreatDoor.cr x k).1:=by
 obtain ⟨S,es⟩:=x
 unfold Proofs.YtogckmommodmhaaGreatDoor.cr
 dsimp only at h ⊢
 cases hf:S.fl.find? (fun q=>q.1 == k) with
 | none=>exact h
 | some q =>
  have hq:=List.mem_of_find?_eq_some hf
  have hk:q.1=k:=by simpa using List.find?_some hf
  have cq:(S.fl.filter fun r=>!(r.1 == k)).Sublist S.fl:=List.filter_sublist
  have bH:∀ r,r ∈ (S.fl.filter fun r=>!(r.1 == k)) ↔ r ∈ S.fl∧r.1≠k:=fun r=>by simp
  dsimp only
  split
  ·rename_i oU
   obtain ⟨r,hr,er⟩:=List.any_eq_true.1 oU
   have er:r.2.map=q.2.map:=by simpa using er
   exact ⟨h.gt,h.wf,fun r hr=>h.ids r (cq.subset hr),h.dM.sublist cq,Nat.le_trans cq.length_le h.len,fun r hr=>h.lS r (cq.subset hr),fun m hm=>by
    obtain ⟨p,hp,e⟩:=h.has m hm
    by_cases kX:p.1=k
    ·have:p=q:=by
      have iV:=List.pairwise_iff_getElem.1 h.dM
      obtain ⟨i,hi,rfl⟩:=List.getElem_of_mem hp
      obtain ⟨j,hj,rfl⟩:=List.getElem_of_mem hq
      rcases Nat.lt_trichotomy i j with h1|h1|h1
      ·exact (iV i j hi hj h1 (by rw[kX,hk])).elim
      ·subst h1;rfl
      ·exact (iV j i hj hi h1 (by rw[kX,hk])).elim
     subst this
     exact ⟨r,hr,er.trans e⟩
    ·exact ⟨p,(bH p).2 ⟨hp,kX⟩,e⟩,h.rA.sublist cq,h.now,h.lT,h.ref⟩
  ·rename_i oU
   obtain ⟨i,hi,NG,g1,g2,g3,g4⟩:=h.gt.cls h.wf (h.lS q hq)
   have b9:∀ r ∈ (S.fl.filter fun r=>!(r.1 == k)),r.2.map≠q.2.map:=fun r hr e=>oU (List.any_eq_true.2 ⟨r,hr,by simpa using e⟩)
   have AZ:∀ o ∈ S.tb.maps.eraseIdx i,o≠q.2.map:=fun o ho e=>by
    have:=List.find?_eq_none.1 (Yfv h.gt NG) o ho
    rw[e]at this
    exact this (Tw _)
   exact ⟨g1,g2,fun r hr=>h.ids r (cq.subset hr),h.dM.sublist cq,Nat.le_trans cq.length_le h.len,fun r hr=>by
     rw[g3]
     obtain ⟨j,hj,e⟩:=List.getElem_of_mem (h.lS r (cq.subset hr))
     refine List.mem_eraseIdx_iff_getElem.2 ⟨j,hj,fun e2=>?_,e⟩
     subst e2
     rw[List.getElem?_eq_getElem hj]at NG
     exact b9 r hr (e.symm.trans (Option.some.inj NG)),fun m hm=>by
     have iE:m ∈ S.tb.maps.eraseIdx i:=by rw[← g3];exact hm
     obtain ⟨p,hp,e⟩:=h.has m (List.mem_of_mem_eraseIdx iE)
     refine ⟨p,(bH p).2 ⟨hp,fun kX=>?_⟩,e⟩
     have:p=q:=by
      have iV:=List.pairwise_iff_getElem.1 h.dM
      obtain ⟨i,hi,rfl⟩:=List.getElem_of_mem hp
      obtain ⟨j,hj,rfl⟩:=List.getElem_of_mem hq
      rcases Nat.lt_trichotomy i j with h1|h1|h1
      ·exact (iV i j hi hj h1 (by rw[kX,hk])).elim
      ·subst h1;rfl
      ·exact (iV j i hj hi h1 (by rw[kX,hk])).elim
     subst this
     exact AZ m iE e.symm,h.rA.sublist cq,h.now,h.lT,h.ref⟩
def Fl.zero:List AV:=[.int .i64 0,.int .i64 0,.int .i64 0,.int .i64 0,.int .i64 0,.int .i64 0,.int .i64 0,.int .i64 0,.int .i64 0,.int .i64 0]
def fR (l:List (Int × Fl)):List (AV × AV):=l.map fun q=>(.int .i64 q.1,.agg q.2.enc)
theorem Wh:dG Tryz.prog 89 false [.int .i64] (.agg Fl.zero):=dG.mk' (by kernel_rfl)
structure NB (S:NS):Prop where
 wf:S.tb.wf
 ids:∀ q ∈ S.fl,1≤q.1∧q.1≤S.b8
 dM:S.fl.Pairwise fun p q=>p.1≠q.1
 now:S.now≤549755813888
 lT:0≤S.b8
theorem NJ.nb {S:NS} (h:NJ S):NB S:=⟨h.wf,h.ids,h.dM,h.now,h.lT⟩
theorem NB.rB {S:NS} (h:NB S) {tb:Tb} (hw:tb.wf):NB { S with tb:=tb }:=⟨hw,h.ids,h.dM,h.now,h.lT⟩
def NS.tl (S:NS):List AV:=[.mp 68,.sl 1 69 0 S.fl.length S.fl.length,.int .i64 S.b8,.ptr 0 0,.int .i64 S.told,.int .i64 S.ref,.int .i64 S.aF,.bool S.loose]
def NS.cells (S:NS):List AV:=S.tb.enc++S.tl
def Qm (S:NS) (T:WT):List (Nat × Bk):=(67,.cells S.cells)::(68,.aE (fR S.fl) false)::(69,.cells (Qp S.keys))::T.hb
theorem NS.aS {S:NS} (h:S.tb.wf):S.cells.length=38:=by simp[NS.cells,NS.tl,Tb.aC h]
theorem NS.eY {S:NS} (h:S.tb.wf):S.cells.take 30=S.tb.enc:=by
 unfold NS.cells
 rw[← Tb.aC h,List.take_left]
theorem NS.cG {S:NS} (h:S.tb.wf) (j:Nat):S.cells.getD (30 + j) .any=S.tl.getD j .any:=by
 unfold NS.cells
 rw[← Tb.aC h]
 simp[List.getD,List.getElem?_append_right]
theorem NS.dm {S:NS} (h:S.tb.wf) (j:Nat) (v:AV):S.cells.set (30 + j) v=S.tb.enc++S.tl.set j v:=by
 unfold NS.cells
 rw[List.set_append,if_neg (by rw[Tb.aC h];omega),Tb.aC h,Nat.add_sub_cancel_left]
theorem NS.eZ {S:NS} (h:S.tb.wf):S.cells.getD 30 .any=.mp 68:=NS.cG h 0
theorem NS.jI {S:NS} (h:S.tb.wf):S.cells.getD 31 .any=.sl 1 69 0 S.fl.length S.fl.length:=NS.cG h 1
theorem NS.HJ {S:NS} (h:S.tb.wf):S.cells.getD 32 .any=.int .i64 S.b8:=NS.cG h 2
theorem NS.ja {S:NS} (h:S.tb.wf):S.cells.getD 33 .any=.ptr 0 0:=NS.cG h 3
theorem NS.rC {S:NS} (h:S.tb.wf):S.cells.getD 34 .any=.int .i64 S.told:=NS.cG h 4
theorem NS.uG {S:NS} (h:S.tb.wf):S.cells.getD 35 .any=.int .i64 S.ref:=NS.cG h 5
theorem NS.fe {S:NS} (h:S.tb.wf):S.cells.getD 36 .any=.int .i64 S.aF:=NS.cG h 6
theorem NS.uH {S:NS} (h:S.tb.wf):S.cells.getD 37 .any=.bool S.loose:=NS.cG h 7
theorem U3 (n:Nat) (l:List (Int × Fl)):∀ q ∈ fR l,Qe n q.1∧Qe n q.2:=fun q hq=>by
 obtain ⟨t,_,rfl⟩:=List.mem_map.1 hq
 simp[Qe,ai,Fl.enc,Up]
theorem NS.rD (S:NS):ai 70 S.cells:=by
 simp[NS.cells,NS.tl,Cp,Tb.bw,ai,Qe]
theorem Qj {S:NS} {T:WT} (hT:T.wf):HL (Qm S T) 70 where
 mem q hq:=by
  rcases List.mem_cons.1 hq with rfl|hq
  ·exact ⟨(by decide:67 < 70),NS.rD S⟩
  rcases List.mem_cons.1 hq with rfl|hq
  ·exact ⟨(by decide:68 < 70),U3 70 _⟩
  rcases List.mem_cons.1 hq with rfl|hq
  ·exact ⟨(by decide:69 < 70),by simp[bG,pW]⟩
  ·have:=(WT.gM hT).mem q hq
   exact ⟨by omega,nH aR this.2⟩
 fN b hb:=by
  by_cases h:b < 67
  ·obtain ⟨q,hq,e⟩:=(WT.gM hT).fN b h
   exact ⟨q,by simp[Qm,hq],e⟩
  ·rcases (by omega:b=67∨b=68∨b=69) with rfl|rfl|rfl
   ·exact ⟨_,List.mem_cons_self,rfl⟩
   ·exact ⟨_,List.mem_cons_of_mem _ List.mem_cons_self,rfl⟩
   ·exact ⟨_,List.mem_cons_of_mem _ (List.mem_cons_of_mem _ List.mem_cons_self),rfl⟩
 self q hq:=by
  unfold Qm
  rcases List.mem_cons.1 hq with rfl|hq
  ·rfl
  rcases List.mem_cons.1 hq with rfl|hq
  ·rfl
  rcases List.mem_cons.1 hq with rfl|hq
  ·rfl
  ·have h1:=((WT.gM hT).mem q hq).1
   rw[Qd,if_neg af,Qd,if_neg af,Qd,if_neg af,((WT.gM hT).live h1 70).1]
   exact (WT.gM hT).self q hq
theorem yK:FT Tryz.prog 20 Tryz.f20 (aO Tryz.prog Tryz.f20) [.cell 4 (.ag 4)]:=.of Tryz.func20
theorem U4:FT Tryz.prog 24 Tryz.f24 (aO Tryz.prog Tryz.f24) [.t 2]:=.of Tryz.func24
theorem U5:FT Tryz.prog 86 Tryz.f86 (aO Tryz.prog Tryz.f86) [.t 8]:=.of Tryz.func86
theorem Xgp:FT Tryz.prog 88 Tryz.f88 (aO Tryz.prog Tryz.f88) [.cell 6 (.ag 4)]:=.of Tryz.func88
theorem Xkz:FT Tryz.prog 90 Tryz.f90 (aO Tryz.prog Tryz.f90) [.t 6]:=.of Tryz.func90
theorem Xks:FT Tryz.prog 91 Tryz.f91 (aO Tryz.prog Tryz.f91) []:=.of Tryz.func91
theorem U6:FT Tryz.prog 93 Tryz.f93 (aO Tryz.prog Tryz.f93) []:=.of Tryz.func93
theorem Ybn:FT Tryz.prog 95 Tryz.f95 (aO Tryz.prog Tryz.f95) [.t 4]:=.of Tryz.func95
theorem Xyu:FT Tryz.prog 97 Tryz.f97 (aO Tryz.prog Tryz.f97) [.t 5]:=.of Tryz.func97
theorem Xn9:FT Tryz.prog 100 Tryz.f100 (aO Tryz.prog Tryz.f100) [.t 3]:=.of Tryz.func100
theorem Xmj:FT Tryz.prog 101 Tryz.f101 (aO Tryz.prog Tryz.f101) [.t 4]:=.of Tryz.func101
theorem Xyw:FT Tryz.prog 58 Tryz.f58 (aO Tryz.prog Tryz.f58) [.cell 4 (.ag 4)]:=.of Tryz.func58
theorem Ydr:FT Tryz.prog 59 Tryz.f59 (aO Tryz.prog Tryz.f59) [.cell 4 (.ag 4)]:=.of Tryz.func59
theorem NH:FT Tryz.prog 60 Tryz.f60 (aO Tryz.prog Tryz.f60) [.cell 4 (.ag 4)]:=.of Tryz.func60
theorem Ybv:FT Tryz.prog 28 Tryz.f28 (aO Tryz.prog Tryz.f28) [.t 2]:=.of Tryz.func28
theorem Yas:FT Tryz.prog 96 Tryz.f96 (aO Tryz.prog Tryz.f96) [.t 4]:=.of Tryz.func96
theorem HM:FT Tryz.prog 136 Tryz.f136 (aO Tryz.prog Tryz.f136) [.t 4]:=.of Tryz.func136
theorem U7:FT Tryz.prog 99 Tryz.f99 (aO Tryz.prog Tryz.f99) [.t 4]:=.of Tryz.func99
theorem yL (l:List (Int × Fl)):Aq false [.int .i64] (fR l):=fun q hq=>by
 obtain ⟨t,_,rfl⟩:=List.mem_map.1 hq
 rfl
theorem HO (l:List (Int × Fl)) (x:Int):jm (fR l) (.int .i64 x)=l.findIdx? fun q=>q.1 == x:=by
 unfold jm fR
 induction l with
 | nil=>rfl
 | cons t D ih =>
  simp only[List.map_cons,List.findIdx?_cons]
  rw[ih]
  by_cases h:t.1=x
  ·simp[h]
  ·simp[h]
theorem NL {l:List (Int × Fl)} (hd:l.Pairwise fun p q=>p.1≠q.1) {i:Nat} (hi:i < l.length):l.findIdx? (fun q=>q.1 == l[i].1)=some i:=by
 rw[List.findIdx?_eq_some_iff_getElem]
 refine ⟨hi,by simp,fun j hj=>?_⟩
 have:=(List.pairwise_iff_getElem.1 hd) j i af hi hj
 simpa using this
theorem NM {l:List (Int × Fl)} (hd:l.Pairwise fun p q=>p.1≠q.1) {i:Nat} (hi:i < l.length) (z:AV):pG (fR l) (.int .i64 l[i].1) z=.agg l[i].2.enc:=by
 unfold pG
 rw[HO,NL hd hi]
 simp[fR,List.getD,hi]
theorem Xui {l:List (Int × Fl)} {x:Int} (h:∀ q ∈ l,q.1≠x) (f:Fl):pH (fR l) (.int .i64 x) (.agg f.enc)=fR (l++[(x,f)]):=by
 unfold pH
 rw[HO,List.findIdx?_eq_none_iff.2 fun t ht=>by simpa using h t ht]
 simp[fR]
theorem Xyg {l:List (Int × Fl)} (hd:l.Pairwise fun p q=>p.1≠q.1) {i:Nat} (hi:i < l.length) (f:Fl):pH (fR l) (.int .i64 l[i].1) (.agg f.enc)=fR (l.map fun q=>if q.1=l[i].1 then (q.1,f) else q):=by
 unfold pH
 rw[HO,NL hd hi]
 refine List.ext_getElem (by simp[fR]) fun j h1 h2=>?_
 have hj:j < l.length:=by simpa [fR] using h1
 simp only[fR,List.getElem_set,List.getElem_map]
 by_cases e:i=j
 ·subst e;simp
 ·rw[if_neg e,if_neg]
  intro e2
  have hp:=List.pairwise_iff_getElem.1 hd
  rcases Nat.lt_or_gt_of_ne e with h|h
  ·exact hp i j hi hj h e2.symm
  ·exact hp j i hj hi h e2
theorem U8 (S:NS) {i:Nat} (hi:i < S.fl.length):(Qp S.keys).getD i .any=.int .i64 S.fl[i].1:=by
 simp[Qp,NS.keys,List.getD,hi]
theorem Er (S:NS):(Qp S.keys).length=S.fl.length:=by simp[Qp,NS.keys]
theorem Xwp {S:NS} {m:Mp} {r rp:Int} {i:Nat} (hi:i < S.fl.length) (b9:∀ q ∈ S.fl.take i,¬ (q.2.map=m∧q.2.rem=r∧q.2.rport=rp)) (h:S.fl[i].2.map=m∧S.fl[i].2.rem=r∧S.fl[i].2.rport=rp):S.findF m r rp=S.fl[i].1:=by
 have hs:S.fl=S.fl.take i++S.fl[i]::S.fl.drop (i + 1):=by rw[← List.drop_eq_getElem_cons hi,List.take_append_drop]
 have hf:S.fl.find? (fun q=>decide (q.2.map=m) && q.2.rem == r && q.2.rport == rp)=some S.fl[i]:=by
  conv=>lhs;rw[hs]
  rw[List.find?_append,List.find?_eq_none.2 fun q hq=>by have:=b9 q hq;simpa using this,List.find?_cons]
  simp[h.1,h.2.1,h.2.2]
 unfold NS.findF
 rw[hf]
theorem Xio {S:NS} {m:Mp} {r rp:Int} (b9:∀ q ∈ S.fl,¬ (q.2.map=m∧q.2.rem=r∧q.2.rport=rp)):S.findF m r rp=0:=by
 unfold NS.findF
 rw[List.find?_eq_none.2 fun q hq=>by have:=b9 q hq;simpa using this]
theorem Ya {S:NS} {T:WT} (hT:T.wf) (n b:Nat) (hb:70≤b):Qc (Qm S T) n b=if b < n then .dead else .free:=by
 unfold Qm
 rw[Qd,if_neg af,Qd,if_neg af,Qd,if_neg af,WT.oK hT n b af]
theorem Kx (S:NS) (T:WT) (n:Nat):Qc (Qm S T) n 67=.cells S.cells:=rfl
theorem v8 (S:NS) (T:WT) (n:Nat):Qc (Qm S T) n 68=.aE (fR S.fl) false:=rfl
theorem wa (S:NS) (T:WT) (n:Nat):Qc (Qm S T) n 69=.cells (Qp S.keys):=rfl
theorem Zs {S:NS} {T:WT} (hT:T.wf):∀ q ∈ Qm S T,q.2.live:=fun q hq=>Xf ((Qj hT).mem q hq).2
theorem To.jY {p:List Nat} {t t':List (Nat × AV)} {ex:List (Nat × Bk)} {S:NS} {T:WT} {n:Nat} (hT:T.wf) (hex:∀ q ∈ ex,70≤q.1) (hp:∀ b ∈ p,b < 70) (ht:Qu id 70 t t'):To p ⟨t,ex++Qm S T,n⟩ ⟨t',Qm S T,70⟩:=by
 have fq:∀ b,b < 70→Qc (ex++Qm S T) n b=Qc (Qm S T) 70 b:=fun b hb=>by
  rw[Xm fun q hq e=>by have:=hex q hq;omega]
  exact ((Qj hT).live hb n).1
 refine To.lk id (fun b hb=>⟨rfl,hp b hb⟩) (fun b dg=>?_) (fun b hb lJ=>?_) (fun b hb=>Ya hT 70 b hb |>.trans (if_neg (by have hb:70≤b:=hb;omega))) (fun b b' _ _ _ _ e=>e) (fun b hb dg=>?_) ht
 ·by_cases h:b < 70
  ·exact h
  ·have dg:(Qc (Qm S T) 70 b).live:=dg
   rw[Ya hT 70 b af,if_neg h]at dg
   exact dg.elim
 ·obtain ⟨_,q,hq,_,e⟩:=(Qj (S:=S) hT).live hb 70
  exact (lJ (by show (Qc (Qm S T) 70 b).live;rw[e];exact Xf ((Qj hT).mem q hq).2)).elim
 ·obtain ⟨_,q,hq,_,e⟩:=(Qj (S:=S) hT).live hb 70
  refine ⟨?_,?_⟩
  ·show bG 70 (Qc (Qm S T) 70 b)
   rw[e];exact ((Qj hT).mem q hq).2
  ·show Qc (ex++Qm S T) n b=Xg id (Qc (Qm S T) 70 b)
   rw[fq b hb,Ws]
theorem To.rE {p:List Nat} {t t':List (Nat × AV)} {ex:List (Nat × Bk)} {S:NS} {T:WT} {x:Bk} {n:Nat} (hT:T.wf) (hex:∀ q ∈ ex,71≤q.1) (hx:bG 70 x) (hp:∀ b ∈ p,b < 70) (ht:Qu id 71 t t'):To p ⟨t,ex++(70,x)::Qm S T,n⟩ ⟨t',(70,x)::Qm S T,71⟩:=by
 have hl:∀ b,b < 70→Qc ((70,x)::Qm S T) 71 b=Qc (Qm S T) 70 b:=fun b hb=>by
  rw[Qd,if_neg af]
  exact ((Qj hT).live hb 71).1
 have U9:Qc ((70,x)::Qm S T) 71 70=x:=by rw[Qd,if_pos rfl]
 have hs:∀ b,b < 71→Qc (ex++(70,x)::Qm S T) n b=Qc ((70,x)::Qm S T) 71 b:=fun b hb=>by
  rw[Xm fun q hq e=>by have:=hex q hq;omega]
  by_cases h:b=70
  ·subst h;rw[U9,Qd,if_pos rfl]
  ·rw[hl b af,Qd,if_neg af]
   exact ((Qj hT).live af n).1
 have km:∀ b,b < 71→(Qc ((70,x)::Qm S T) 71 b).live∧bG 70 (Qc ((70,x)::Qm S T) 71 b):=fun b hb=>by
  by_cases h:b=70
  ·subst h;rw[U9];exact ⟨Xf hx,hx⟩
  ·rw[hl b af]
   obtain ⟨_,q,hq,_,e⟩:=(Qj (S:=S) hT).live (show b < 70 by omega) 70
   rw[e]
   have:=((Qj hT).mem q hq).2
   exact ⟨Xf this,this⟩
 have nu:∀ b,71≤b→Qc ((70,x)::Qm S T) 71 b=.free:=fun b hb=>by
  rw[Qd,if_neg af,Ya hT 71 b af,if_neg af]
 refine To.lk id (fun b hb=>⟨rfl,by have:=hp b hb;show b < 71;omega⟩) (fun b dg=>?_) (fun b hb lJ=>(lJ (km b hb).1).elim) (fun b hb=>nu b hb) (fun b b' _ _ _ _ e=>e) (fun b hb dg=>⟨nH (show 70≤71 by decide) (km b hb).2,by show Qc (ex++(70,x)::Qm S T) n b=Xg id (Qc ((70,x)::Qm S T) 71 b);rw[hs b hb,Ws]⟩) ht
 by_cases h:b < 71
 ·exact h
 ·have dg:(Qc ((70,x)::Qm S T) 71 b).live:=dg
  rw[nu b af]at dg
  exact dg.elim
set_option maxRecDepth 20000 in
theorem Va (gl:Nat→AV) (S:NS) (T:WT) (hS:NJ S) (hT:T.wf) (m:Mp) (r rp:Int):GD Tryz.prog gl 86 [.ptr 67 0,.agg m.enc,.int .i64 r,.int .i64 rp] (Qm S T) 70 (List.range 70) (.int .i64 (S.findF m r rp)) (Qm S T):=by
 refine U5.gq (of_decide_eq_true rfl) (Zs hT) (fun b hb=>List.mem_range.1 hb) fun c aY hg=>?_
 conv in aO _ _=>cbv
 have aH:=fun n b hb=>Ya (S:=S) hT n b hb
 have bI:=Kx S T
 have rF:=v8 S T
 have wc:=wa S T
 have aV:=NS.aS hS.wf
 have eZ:=NS.eZ hS.wf
 have jI:=NS.jI hS.wf
 have iO:=Er S
 obtain ⟨mp,ms,mi,ma,mt⟩:=m
 unfold Mp.enc
 refine Qh (An @aH (An @bI (An @aV @jI))) ?_
 refine Yi (fun k:Nat=>k≤S.fl.length∧∀ q ∈ S.fl.take k,¬ (q.2.map=⟨mp,ms,mi,ma,mt⟩∧q.2.rem=r∧q.2.rport=rp)) (fun k=>⟨[(0,.ptr 67 0),(2,.int .i64 r),(3,.int .i64 rp),(5,.ptr 70 0),(15,.sl 1 69 0 S.fl.length S.fl.length),(16,.int .i64 S.fl.length),(17,.int .i64 k)],(70,.cells [.int .i64 mp,.int .i64 ms,.int .i64 mi,.int .i64 ma,.int .i64 mt])::Qm S T,71⟩) (fun k=>S.fl.length - k) U5.mixed (List.range 70) aY
  ⟨0,⟨by omega,by simp⟩,To.c6 (by exact Qs) fun b=>rfl⟩ fun k hk=>?_
 obtain ⟨hk,b9⟩:=hk
 have h48:=hS.len
 refine Qf ?_
 (refine Qa (fun h1=>?_) (fun h1=>?_)<;>try exact h1.elim)
 ·have bB:k < S.fl.length:=by omega
  have kn:=U8 S bB
  have eK:=NM hS.dM bB (.agg Fl.zero)
  have dZ:=yL S.fl
  have dW:=pU S.fl[k].1
  have vu:=Xwp (S:=S) (m:=⟨mp,ms,mi,ma,mt⟩) (r:=r) (rp:=rp) bB b9
  have uI:¬ (S.fl[k].2.map=⟨mp,ms,mi,ma,mt⟩∧S.fl[k].2.rem=r∧S.fl[k].2.rport=rp)→∀ q ∈ S.fl.take (k + 1),¬ (q.2.map=⟨mp,ms,mi,ma,mt⟩∧q.2.rem=r∧q.2.rport=rp):=fun h q hq=>by
   rw[List.take_succ,List.mem_append]at hq
   rcases hq with hq|hq
   ·exact b9 q hq
   ·simp[bB]at hq;subst hq;exact h
  generalize S.fl[k]=q at *
  obtain ⟨x,⟨⟨p0,p1,p2,p3,p4⟩,g0,g1,g2,g3,g4⟩⟩:=q
  unfold Fl.enc Up at eK
  dsimp only at eK vu uI kn dW
  have heq:=@DN c false ⟨p0,p1,p2,p3,p4⟩ ⟨mp,ms,mi,ma,mt⟩
  unfold Mp.enc at heq
  dsimp only at heq
  refine Qh (An @wc (An @iO (An @kn (An @bI (An @aV @eZ))))) ?_
  ((first|refine oz Wh ?_|refine Ut Wh ?_);(have aB:=@rF;have aQ:=@dZ;have a8:=@dW;have bU:=@eK;have cI:=@aH;refine XG ?_;clear aB aQ a8 bU cI;((try (repeat' with_reducible refine And.intro ?_ ?_));(try any_goals (first|refine zm ?_|exact CL|fail)))))
  by_cases hm:(⟨p0,p1,p2,p3,p4⟩:Mp)=⟨mp,ms,mi,ma,mt⟩
  ·rw[decide_eq_true hm]at heq
   by_cases hr:g0=r∧g1=rp
   ·have f1:(g0 == r)=true:=beq_iff_eq.2 hr.1
    have f2:(g1 == rp)=true:=beq_iff_eq.2 hr.2
    have e:=vu ⟨hm,hr.1,hr.2⟩
    refine Qy heq @aH ?_
    refine Qh (An @f1 @f2) ?_
    (refine Qa (fun h2=>?_) (fun h2=>?_)<;>try exact h2.elim)
    refine Qf ?_
    refine ⟨(),?_⟩
    rw[e]
    exact To.jY (ex:=[(71,_),(71,_),(70,_)]) hT au (fun b hb=>List.mem_range.1 hb) (by simp[Qu,Qe,look,aD])
   ·have yA:=uI fun h=>hr ⟨h.2.1,h.2.2⟩
    by_cases h0:g0=r
    ·have f1:(g0 == r)=true:=beq_iff_eq.2 h0
     have f2:(g1 == rp)=false:=beq_eq_false_iff_ne.2 fun e=>hr ⟨h0,e⟩
     refine Qy heq @aH ?_
     refine Qh (An @f1 @f2) ?_
     (refine Qa (fun h2=>?_) (fun h2=>?_)<;>try exact h2.elim)
     refine Qf ?_
     exact ⟨k + 1,⟨by omega,yA⟩,To.rE (ex:=[(71,_),(71,_)]) hT au (by simp[bG,ai,Qe]) (fun b hb=>List.mem_range.1 hb) (by simp[Qu,Qe,ai,look,aD]),by omega⟩
    ·have f1:(g0 == r)=false:=beq_eq_false_iff_ne.2 h0
     refine Qy heq @aH ?_
     refine Qh @f1 ?_
     (refine Qa (fun h2=>?_) (fun h2=>?_)<;>try exact h2.elim)
     refine Qf ?_
     exact ⟨k + 1,⟨by omega,yA⟩,To.rE (ex:=[(71,_),(71,_)]) hT au (by simp[bG,ai,Qe]) (fun b hb=>List.mem_range.1 hb) (by simp[Qu,Qe,ai,look,aD]),by omega⟩
  ·have yA:=uI fun h=>hm h.1
   rw[decide_eq_false hm]at heq
   refine Qy heq @aH ?_
   (refine Qa (fun h2=>?_) (fun h2=>?_)<;>try exact h2.elim)
   refine Qf ?_
   exact ⟨k + 1,⟨by omega,yA⟩,To.rE (ex:=[(71,_),(71,_)]) hT au (by simp[bG,ai,Qe]) (fun b hb=>List.mem_range.1 hb) (by simp[Qu,Qe,ai,look,aD]),by omega⟩
 ·obtain rfl:k=S.fl.length:=by omega
  rw[List.take_length]at b9
  rw[Xio b9]
  refine Qf ?_
  exact ⟨(),To.jY (ex:=[(70,_)]) hT au (fun b hb=>List.mem_range.1 hb) (by simp[Qu,Qe,look,aD])⟩
theorem To.NN {p:List Nat} {t t':List (Nat × AV)} {h:List (Nat × Bk)} {S:NS} {T:WT} {n:Nat} (ρ:Nat→Nat) (hT:T.wf) (hp:∀ b ∈ p,ρ b=b∧b < 70) (bT:∀ b b',b < 70→b' < 70→ρ b=ρ b'→b=b') (hl:∀ b,b < 70→Qc h n (ρ b)=Xg ρ (Qc (Qm S T) 70 b)) (ht:Qu ρ 70 t t'):To p ⟨t,h,n⟩ ⟨t',Qm S T,70⟩:=by
 refine To.lk ρ (fun b hb=>hp b hb) (fun b dg=>?_) (fun b hb lJ=>?_) (fun b hb=>Ya hT 70 b hb |>.trans (if_neg (by have hb:70≤b:=hb;omega))) (fun b b' hb bJ _ _ e=>bT b b' hb bJ e) (fun b hb dg=>?_) ht
 ·by_cases h:b < 70
  ·exact h
  ·have dg:(Qc (Qm S T) 70 b).live:=dg
   rw[Ya hT 70 b af,if_neg h]at dg
   exact dg.elim
 ·obtain ⟨_,q,hq,_,e⟩:=(Qj (S:=S) hT).live hb 70
  exact (lJ (by show (Qc (Qm S T) 70 b).live;rw[e];exact Xf ((Qj hT).mem q hq).2)).elim
 ·obtain ⟨_,q,hq,_,e⟩:=(Qj (S:=S) hT).live hb 70
  refine ⟨?_,hl b hb⟩
  show bG 70 (Qc (Qm S T) 70 b)
  rw[e];exact ((Qj hT).mem q hq).2
theorem Vb {S S':NS} {T:WT} {ex:List (Nat × Bk)} {n:Nat} (kz:S'.fl=S.fl) (hex:∀ q ∈ ex,70≤q.1∨q=(67,Bk.cells S'.cells)) (bI:Qc (ex++Qm S T) n 67=.cells S'.cells) (hT:T.wf):∀ b,b < 70→Qc (ex++Qm S T) n (id b)=Xg id (Qc (Qm S' T) 70 b):=fun b hb=>by
 rw[Ws]
 show Qc (ex++Qm S T) n b=_
 by_cases h:b=67
 ·subst h;rw[bI];rfl
 ·rw[Xm fun q hq e=>(hex q hq).elim (fun h1=>by omega) fun h1=>h (by rw[h1]at e;exact e.symm),((Qj (S:=S) hT).live hb n).1]
  unfold Qm NS.keys
  rw[kz]
  simp only[Qd]
  (repeat' split)<;>first|rfl|omega
theorem NS.Es {S:NS} (h:S.tb.wf) (v:Nat):S.cells.set 35 (.int .i64 v)=({ S with ref:=v }:NS).cells:=NS.dm h 5 _
theorem Vc (gl:Nat→AV) (S:NS) (T:WT) (hS:NJ S) (hT:T.wf) (f:List UInt8) (hf:f.length≤140737488351232) (e:Int):GD Tryz.prog gl 88 [.ptr 67 0,.str f,.int .i64 e] (Qm S T) 70 (List.range 70) (.agg (S.refuse f e).1.enc) (Qm (S.refuse f e).2 T):=by
 refine Xgp.gq (of_decide_eq_true rfl) (Zs hT) (fun b hb=>List.mem_range.1 hb) fun c aY hg=>?_
 conv in aO _ _=>cbv
 have aH:=fun n b hb=>Ya (S:=S) hT n b hb
 have bI:=Kx S T
 have aV:=NS.aS hS.wf
 have uG:=NS.uG hS.wf
 have hR:=Xrn c.gl f S.ref hf
 have NO:=hS.ref
 unfold NS.refuse
 refine Qh (An @aH (An @bI (An @aV @uG))) ?_
 (refine Qa (fun h1=>?_) (fun h1=>?_)<;>try exact h1.elim)
 ·rw[if_pos (.inl af)]
  unfold bR Rp.enc
  refine Qh @aH ?_
  exact ⟨(),To.jY (ex:=[(70,_),(70,_)]) hT au (fun b hb=>List.mem_range.1 hb) (by simp[Qu,Qe,ai,look,aD,ay])⟩
 by_cases he:bP f=0
 ·unfold sN at hR
  rw[if_neg af,if_neg af]at hR
  rw[if_neg af]
  have NP:=NS.Es hS.wf (S.ref - 1)
  have cq:(S.ref:Int) - 1=((S.ref - 1:Nat):Int):=by omega
  unfold Rp.enc
  refine Qh (An @aH (An @bI (An @aV @uG))) ?_
  refine Zg hR ?_
  refine Qf ?_
  (refine Qa (fun h2=>?_) (fun h2=>?_)<;>try exact h2.elim)
  refine Qh (An @aH (An @bI (An @aV (An @uG (An @cq @NP))))) ?_
  exact ⟨(),To.NN id hT (fun b hb=>⟨rfl,List.mem_range.1 hb⟩) (fun b b' _ _ e=>e) (Vb (S':={ S with ref:=S.ref - 1 }) (ex:=[(70,_),(67,_),(70,_)]) rfl au rfl hT) (by simp[Qu,Qe,ai,look,aD,ay])⟩
 ·have bV:sN f S.ref=.aX [.str [],.int .i64 (bP f)]:=if_pos he
  rw[bV]at hR
  rw[if_pos (.inr he)]
  unfold bR Rp.enc
  refine Qh (An @aH (An @bI (An @aV @uG))) ?_
  refine Zg hR ?_
  refine Qf ?_
  (refine Qa (fun h2=>?_) (fun h2=>?_)<;>try exact h2.elim)
  ·refine Qh @aH ?_
   exact ⟨(),To.jY (ex:=[(70,_),(70,_)]) hT au (fun b hb=>List.mem_range.1 hb) (by simp[Qu,Qe,ai,look,aD,ay])⟩
  ·exact absurd h2 he
theorem Xi4 (gl:Nat→AV) (seq:Int) (l:List Ev) (lh:l.length≤4611686018427387904) :
  PS Tryz.prog gl 135 [.int .i64 seq,.isl l.length (Zn l)] (v7 seq l):=by
 refine Ru.ps (of_decide_eq_true rfl) (Xvy _ _ _) fun c hN hg=>?_
 conv in aO _ _=>cbv
 have hl:=Eo l
 refine Qf ?_
 (refine Qa (fun h1=>?_) (fun h1=>?_)<;>try exact h1.elim)
 ·have:l=[]:=List.eq_nil_of_length_eq_zero af
  subst this
  refine Qf ?_
  rfl
 obtain ⟨e0,l0,hL⟩:∃ e0 l0,e0::l0=l:=by
  cases l with
  | nil=>simp at h1
  | cons e l=>exact ⟨e,l,rfl⟩
 have jw:(Zn l).getD 0 .any=.int .i64 e0.t:=by
  have:=Xuk (e0::l0) 0 au 0 aR
  simp only[List.getElem_cons_zero,Ev.enc,List.getD_cons_zero,Nat.zero_mul,Nat.zero_add]at this
  rw[← hL];exact this
 refine Qf ?_
 (refine Qa (fun h2=>?_) (fun h2=>?_)<;>try exact h2.elim)
 ·refine Qf ?_
  subst hL
  simp only[v7]
  rw[if_pos (by simp only[List.length_cons]at h2;omega)]
 have hlen:l.length≤64:=by omega
 have gW:¬ 64 < l0.length + 1:=by rw[← hL]at hlen;simp only[List.length_cons]at hlen;omega
 generalize l=L at *
 refine Qf ?_
 refine Xoh (ps:=[(6,1)]) (by exact Qs) ?_
 (refine XG ?_)
 refine Xr (fun k:Nat=>k≤L.length∧vZ e0.t (L.take k)=true) (fun k=>⟨[(0,.int .i64 seq),(1,.isl L.length (Zn L)),(6,.sl 1 0 0 (21 * k) (21 * k)),(17,.isl L.length (Zn L)),(18,.int .i64 L.length),(19,.int .i64 k)],[(0,.cells (Xo (lR (L.take k))))],1⟩) (fun k=>L.length - k) Ru.mixed hN
  ⟨0,⟨by omega,rfl⟩,[],by refine Qf ?_;rfl⟩ fun k ⟨hk,bO⟩=>?_
 refine Qf ?_
 (refine Qa (fun h3=>?_) (fun h3=>?_)<;>try exact h3.elim)
 ·have bB:k < L.length:=by omega
  have bg:=UY L k bB
  have eW:=Xk3 L k bB
  have lI:vZ e0.t (L.take (k + 1))=(Ul L[k].t L[k].s L[k].a L[k].b && L[k].t == e0.t):=by
   unfold vZ at bO ⊢
   rw[List.take_add_one,List.getElem?_eq_getElem bB,List.all_append,bO]
   simp
  have eH:(Ul L[k].t L[k].s L[k].a L[k].b && L[k].t == e0.t)=false→vZ e0.t L=false:=fun hb=>by
   unfold vZ
   rw[List.all_eq_false]
   exact ⟨L[k],List.getElem_mem _,by rw[hb];simp⟩
  have kH:(lR (L.take k)).length=21 * k:=by rw[HE];simp;omega
  generalize L[k]=e at *
  obtain ⟨t,sb,a,b,f⟩:=e
  simp only[Ev.enc]at bg
  refine Qh (An @hl @bg) ?_
  ((first|apply Yx|apply Ym|apply Xz|apply Xs)<;>(first|exact (Xf7 _ _ _ _ _ _)|(have aB:=@bg;have aQ:=@jw;refine XG ?_;clear aB aQ;first|exact rfl|exact True.intro|((try (repeat' with_reducible refine And.intro ?_ ?_));(try any_goals (first|refine zm ?_|exact CL|fail))))))
  (refine Qa (fun h4=>?_) (fun h4=>?_)<;>try exact h4.elim)
  ·have hb:=eH (by
    simp only[Ak]at h4
    cases hg:Ul t sb a b
    ·rfl
    ·rw[if_pos hg]at h4;simpa using h4)
   refine Qf ?_
   subst hL
   simp only[v7]
   rw[if_neg gW,if_neg (by rw[hb];simp)]
  ·have bm:Ul t sb a b=true:=by
    simp only[Ak]at h4
    by_cases hg:Ul t sb a b=true
    ·exact hg
    ·rw[if_neg hg]at h4;simp at h4
   have ht:t=e0.t:=by
    simp only[Ak]at h4
    rw[if_pos bm]at h4;simpa using h4
   have hr:=bm
   simp[Ul]at hr
   generalize hB:lR (L.take k)=B at *
   have fP:B.length≤100000000 - 21:=by omega
   refine Qf ?_
   ((first|refine Xa (ins:=[0]) (Xb c.gl B t 8 (by decide) (by omega)) ?_ ?_|refine Qw (ins:=[0]) (Xb c.gl B t 8 (by decide) (by omega)) ?_ ?_|refine Qx (ins:=[0]) (Xb c.gl B t 8 (by decide) (by omega)) ?_ ?_|refine Qt (ins:=[0]) (Xb c.gl B t 8 (by decide) (by omega)) ?_ ?_)<;>(have aB:=@Qi;have aQ:=@kH;refine XG ?_;clear aB aQ;(try first|exact rfl|exact True.intro);((try (repeat' with_reducible refine And.intro ?_ ?_));(try any_goals (first|refine zm ?_|exact CL|fail)))))
   ((first|refine Xa (ins:=[2]) (Xb c.gl (B++be t 8) (167772161 + sb) 4 (by decide) (by simp[Qi];omega)) ?_ ?_|refine Qw (ins:=[2]) (Xb c.gl (B++be t 8) (167772161 + sb) 4 (by decide) (by simp[Qi];omega)) ?_ ?_|refine Qx (ins:=[2]) (Xb c.gl (B++be t 8) (167772161 + sb) 4 (by decide) (by simp[Qi];omega)) ?_ ?_|refine Qt (ins:=[2]) (Xb c.gl (B++be t 8) (167772161 + sb) 4 (by decide) (by simp[Qi];omega)) ?_ ?_)<;>(have aB:=@Qi;have aQ:=@kH;refine XG ?_;clear aB aQ;(try first|exact rfl|exact True.intro);((try (repeat' with_reducible refine And.intro ?_ ?_));(try any_goals (first|refine zm ?_|exact CL|fail)))))
   ((first|refine Xa (ins:=[3]) (Xb c.gl (B++be t 8++be (167772161 + sb) 4) (3405803777 + a) 4 (by decide) (by simp[Qi];omega)) ?_ ?_|refine Qw (ins:=[3]) (Xb c.gl (B++be t 8++be (167772161 + sb) 4) (3405803777 + a) 4 (by decide) (by simp[Qi];omega)) ?_ ?_|refine Qx (ins:=[3]) (Xb c.gl (B++be t 8++be (167772161 + sb) 4) (3405803777 + a) 4 (by decide) (by simp[Qi];omega)) ?_ ?_|refine Qt (ins:=[3]) (Xb c.gl (B++be t 8++be (167772161 + sb) 4) (3405803777 + a) 4 (by decide) (by simp[Qi];omega)) ?_ ?_)<;>(have aB:=@Qi;have aQ:=@kH;refine XG ?_;clear aB aQ;(try first|exact rfl|exact True.intro);((try (repeat' with_reducible refine And.intro ?_ ?_));(try any_goals (first|refine zm ?_|exact CL|fail)))))
   ((first|refine Xa (ins:=[4]) (Xb c.gl (B++be t 8++be (167772161 + sb) 4++be (3405803777 + a) 4) (1024 + b * 8) 2 (by decide) (by simp[Qi];omega)) ?_ ?_|refine Qw (ins:=[4]) (Xb c.gl (B++be t 8++be (167772161 + sb) 4++be (3405803777 + a) 4) (1024 + b * 8) 2 (by decide) (by simp[Qi];omega)) ?_ ?_|refine Qx (ins:=[4]) (Xb c.gl (B++be t 8++be (167772161 + sb) 4++be (3405803777 + a) 4) (1024 + b * 8) 2 (by decide) (by simp[Qi];omega)) ?_ ?_|refine Qt (ins:=[4]) (Xb c.gl (B++be t 8++be (167772161 + sb) 4++be (3405803777 + a) 4) (1024 + b * 8) 2 (by decide) (by simp[Qi];omega)) ?_ ?_)<;>(have aB:=@Qi;have aQ:=@kH;refine XG ?_;clear aB aQ;(try first|exact rfl|exact True.intro);((try (repeat' with_reducible refine And.intro ?_ ?_));(try any_goals (first|refine zm ?_|exact CL|fail)))))
   ((first|refine Xa (ins:=[5]) (Xb c.gl (B++be t 8++be (167772161 + sb) 4++be (3405803777 + a) 4++be (1024 + b * 8) 2) (1024 + b * 8 + 8 - 1) 2 (by decide) (by simp[Qi];omega)) ?_ ?_|refine Qw (ins:=[5]) (Xb c.gl (B++be t 8++be (167772161 + sb) 4++be (3405803777 + a) 4++be (1024 + b * 8) 2) (1024 + b * 8 + 8 - 1) 2 (by decide) (by simp[Qi];omega)) ?_ ?_|refine Qx (ins:=[5]) (Xb c.gl (B++be t 8++be (167772161 + sb) 4++be (3405803777 + a) 4++be (1024 + b * 8) 2) (1024 + b * 8 + 8 - 1) 2 (by decide) (by simp[Qi];omega)) ?_ ?_|refine Qt (ins:=[5]) (Xb c.gl (B++be t 8++be (167772161 + sb) 4++be (3405803777 + a) 4++be (1024 + b * 8) 2) (1024 + b * 8 + 8 - 1) 2 (by decide) (by simp[Qi];omega)) ?_ ?_)<;>(have aB:=@Qi;have aQ:=@kH;refine XG ?_;clear aB aQ;(try first|exact rfl|exact True.intro);((try (repeat' with_reducible refine And.intro ?_ ?_));(try any_goals (first|refine zm ?_|exact CL|fail)))))
   have e1:1024 + 8 * b=1024 + b * 8:=by omega
   have e2:1031 + 8 * b=1024 + b * 8 + 8 - 1:=by omega
   cases f with
   | false =>
    (refine Qa (fun h5=>?_) (fun h5=>?_)<;>try exact h5.elim)
    refine Qf ?_
    ((first|refine Xa (ins:=[6]) (Xb c.gl (B++be t 8++be (167772161 + sb) 4++be (3405803777 + a) 4++be (1024 + b * 8) 2++be (1024 + b * 8 + 8 - 1) 2) 1 1 (by decide) (by simp[Qi];omega)) ?_ ?_|refine Qw (ins:=[6]) (Xb c.gl (B++be t 8++be (167772161 + sb) 4++be (3405803777 + a) 4++be (1024 + b * 8) 2++be (1024 + b * 8 + 8 - 1) 2) 1 1 (by decide) (by simp[Qi];omega)) ?_ ?_|refine Qx (ins:=[6]) (Xb c.gl (B++be t 8++be (167772161 + sb) 4++be (3405803777 + a) 4++be (1024 + b * 8) 2++be (1024 + b * 8 + 8 - 1) 2) 1 1 (by decide) (by simp[Qi];omega)) ?_ ?_|refine Qt (ins:=[6]) (Xb c.gl (B++be t 8++be (167772161 + sb) 4++be (3405803777 + a) 4++be (1024 + b * 8) 2++be (1024 + b * 8 + 8 - 1) 2) 1 1 (by decide) (by simp[Qi];omega)) ?_ ?_)<;>(have aB:=@Qi;have aQ:=@kH;refine XG ?_;clear aB aQ;(try first|exact rfl|exact True.intro);((try (repeat' with_reducible refine And.intro ?_ ?_));(try any_goals (first|refine zm ?_|exact CL|fail)))))
    refine ⟨k + 1,⟨by omega,by rw[lI,bm,ht];simp⟩,⟨[(0,7)],?_⟩,by omega⟩
    refine Qh @eW ?_
    simp[Bj,e1,e2]
   | true =>
    (refine Qa (fun h5=>?_) (fun h5=>?_)<;>try exact h5.elim)
    refine Qf ?_
    ((first|refine Xa (ins:=[6]) (Xb c.gl (B++be t 8++be (167772161 + sb) 4++be (3405803777 + a) 4++be (1024 + b * 8) 2++be (1024 + b * 8 + 8 - 1) 2) 2 1 (by decide) (by simp[Qi];omega)) ?_ ?_|refine Qw (ins:=[6]) (Xb c.gl (B++be t 8++be (167772161 + sb) 4++be (3405803777 + a) 4++be (1024 + b * 8) 2++be (1024 + b * 8 + 8 - 1) 2) 2 1 (by decide) (by simp[Qi];omega)) ?_ ?_|refine Qx (ins:=[6]) (Xb c.gl (B++be t 8++be (167772161 + sb) 4++be (3405803777 + a) 4++be (1024 + b * 8) 2++be (1024 + b * 8 + 8 - 1) 2) 2 1 (by decide) (by simp[Qi];omega)) ?_ ?_|refine Qt (ins:=[6]) (Xb c.gl (B++be t 8++be (167772161 + sb) 4++be (3405803777 + a) 4++be (1024 + b * 8) 2++be (1024 + b * 8 + 8 - 1) 2) 2 1 (by decide) (by simp[Qi];omega)) ?_ ?_)<;>(have aB:=@Qi;have aQ:=@kH;refine XG ?_;clear aB aQ;(try first|exact rfl|exact True.intro);((try (repeat' with_reducible refine And.intro ?_ ?_));(try any_goals (first|refine zm ?_|exact CL|fail)))))
    refine ⟨k + 1,⟨by omega,by rw[lI,bm,ht];simp⟩,⟨[(0,7)],?_⟩,by omega⟩
    refine Qh @eW ?_
    simp[Bj,e1,e2]
 ·have:k=L.length:=by omega
  subst this
  rw[List.take_length]at bO ⊢
  have hb:(lR L).length≤10000000:=by rw[HE];omega
  have hm:=Rw c.gl seq e0.t 300 (lR L) hb
  have e2:v7 seq L=lA seq e0.t 300 (lR L):=by
   subst hL
   simp only[v7]
   rw[if_neg gW,if_pos bO]
  have NQ:=HE L
  rw[e2]
  clear e2
  rw[NQ]at hm
  have hf:Jy (lA seq e0.t 300 (lR L)):=by
   unfold lA;split<;>exact .aX (by simp[Jy.str,Jy.int])
  unfold lA at hm hf ⊢
  refine Qh @jw ?_
  split at hm
  ·rename_i hq
   rw[if_pos hq]at hf
   ((first|apply Wx|apply Ku)<;>(first|exact hm|(with_reducible exact hf)|(have aB:=@jw;have aQ:=@NQ;refine XG ?_;clear aB aQ;first|exact rfl|exact True.intro|((try (repeat' with_reducible refine And.intro ?_ ?_));(try any_goals (first|refine zm ?_|exact CL|fail))))))
   rw[if_pos (by assumption)]
  ·rename_i hq
   rw[if_neg hq]at hf
   ((first|apply Wx|apply Ku)<;>(first|exact hm|(with_reducible exact hf)|(have aB:=@jw;have aQ:=@NQ;refine XG ?_;clear aB aQ;first|exact rfl|exact True.intro|((try (repeat' with_reducible refine And.intro ?_ ?_));(try any_goals (first|refine zm ?_|exact CL|fail))))))
   rw[if_neg (by assumption)]
theorem NS.s34 {S:NS} (h:S.tb.wf) (v:Nat):S.cells.set 34 (.int .i64 v)=({ S with told:=v }:NS).cells:=NS.dm h 4 _
theorem Vd (gl:Nat→AV) (h0:gl 0=.xp (Qp Xi) 0) (S:NS) (T:WT) (hS:NJ S) (hT:T.wf) (we:S.told≤100000) (l:List Ev) (hl:l.length≤64) (ha:∀ e ∈ l,Ul e.t e.s e.a e.b=true∧e.t=(l.headD ⟨0,0,0,0,false⟩).t) :
  GD Tryz.prog gl 95 [.ptr 67 0,.isl l.length (Zn l)] (Qm S T) 70 (List.range 70) (.str (pZ S.told l)) (Qm (S.log l) T):=by
 refine Ybn.gq (of_decide_eq_true rfl) (Zs hT) (fun b hb=>List.mem_range.1 hb) fun c aY hg=>?_
 conv in aO _ _=>cbv
 have aH:=fun n b hb=>Ya (S:=S) hT n b hb
 have bI:=Kx S T
 have aV:=NS.aS hS.wf
 have rC:=NS.rC hS.wf
 have NR:=Qzh c.gl (by rw[hg];exact h0) 0
 unfold lA at NR
 rw[if_pos af]at NR
 refine Qf ?_
 (refine Qa (fun h1=>?_) (fun h1=>?_)<;>try exact h1.elim)
 ·obtain rfl:l=[]:=List.eq_nil_of_length_eq_zero af
  refine Qf ?_
  exact ⟨(),To.jY (ex:=[]) hT au (fun b hb=>List.mem_range.1 hb) (by simp[Qu,Qe,ai,look,aD,ay,pZ])⟩
 cases l with
 | nil=>simp at h1
 | cons e l =>
  have hM:=Xi4 c.gl S.told (e::l) af
  have bO:vZ e.t (e::l)=true:=by
   unfold vZ
   rw[List.all_eq_true]
   intro x hx
   obtain ⟨g1,g2⟩:=ha x hx
   have g2:x.t=e.t:=g2
   rw[g1,g2];simp
  have lh:¬ 64 < l.length + 1:=by simp at hl;omega
  unfold v7 at hM
  dsimp only at hM
  rw[if_neg lh,if_pos bO]at hM
  unfold lA at hM
  rw[if_pos af]at hM
  have rG:=NS.s34 hS.wf (S.told + (e::l).length)
  have dt:(S.told:Int) + ((e::l).length:Nat)=((S.told + (e::l).length:Nat):Int):=by omega
  have mW:pZ S.told (e::l)=(if S.told=0 then pD 0 0 2 (Uy 6) else [])++pD S.told e.t 300 (lR (e::l)):=rfl
  rw[mW]
  have lJ:(e::l).length=l.length + 1:=rfl
  have hB:(lR (e::l)).length≤1400:=by rw[HE];omega
  have hE:=fun n=>uF n (e::l)
  simp only[List.length_cons]at hM rG dt ⊢
  clear lJ
  generalize Zn (e::l)=E at *
  generalize lR (e::l)=B at *
  have Ve:(pD S.told e.t 300 B).length≤100000:=by
   simp[pD,Qi];omega
  generalize pD S.told e.t 300 B=MB at *
  have Vf:(pD 0 0 2 (Uy 6)).length≤100000:=by decide +kernel
  generalize pD 0 0 2 (Uy 6)=TB at *
  have og:∀ (t:List (Nat × AV)) (ex:List (Nat × Bk)) (n:Nat) (r:List UInt8),70≤n→To (List.range 70) ⟨[(0,.str r)],(67,.cells ({ S with told:=S.told + (l.length + 1) }:NS).cells)::Qm S T,70⟩ ⟨[(0,.str r)],Qm (S.log (e::l)) T,70⟩:=fun t ex n r hn =>
   To.NN id hT (fun b hb=>⟨rfl,List.mem_range.1 hb⟩) (fun b b' _ _ e=>e) (Vb (S':=S.log (e::l)) (ex:=[(67,_)]) rfl (by simp[NS.log]) rfl hT) (by simp[Qu,Qe,look,aD])
  by_cases hz:S.told=0
  ·rw[if_pos hz]
   refine Qh (An @bI (An @aV (An @rC @hE))) ?_
   (refine Qa (fun h2=>?_) (fun h2=>?_)<;>try exact h2.elim)
   ·refine Qf ?_
    refine Qy NR (An @bI (An @aV @rC)) ?_
    refine Qh (An @bI (An @aV (An @rC @hE))) ?_
    refine Qy hM (An @hE (An @bI (An @aV (An @rC (An @dt (An @rG (An @Ve @Vf))))))) ?_
    refine Qh (An @bI (An @aV (An @rC (An @dt (An @rG @hE))))) ?_
    exact ⟨(),og [] [] 70 _ af⟩
   ·exact absurd hz af
  ·rw[if_neg hz]
   refine Qh (An @bI (An @aV (An @rC @hE))) ?_
   (refine Qa (fun h2=>?_) (fun h2=>?_)<;>try exact h2.elim)
   ·exact absurd h2 af
   ·refine Qh (An @bI (An @aV (An @rC @hE))) ?_
    refine Qy hM (An @hE (An @bI (An @aV (An @rC (An @dt (An @rG (An @Ve @Vf))))))) ?_
    refine Qh (An @bI (An @aV (An @rC (An @dt (An @rG @hE))))) ?_
    exact ⟨(),og [] [] 70 _ af⟩
section
variable {P:Program} {c:Cx}
theorem Vg {d:Option Nat} {f:FuncId} {xs:List TV} {args:List AV} {T:WT} {n:Nat} {r:AV} {t:List (Nat × AV)} {ex:List (Nat × Bk)} {r0:List bF} {K:St→Prop} (hq:GD P c.gl f args T.hb 67 (List.range 67) r T.hb) (hT:T.wf) (hn:67≤n) (hex:∀ q ∈ ex,67≤q.1∧q.1 < n)
  (hc:Qv none (aG c.gl (⟨t,ex++T.hb,n⟩:St).fs xs)∧(aG c.gl (⟨t,ex++T.hb,n⟩:St).fs xs).map Qk=args∧ai 67 args) (hr:Qe 0 r) (h:XP P c r0 K (St.bQ ⟨t,ex++T.hb,n + 67⟩ d r)):Yl P c (.pd d (.call f) xs none) r0 K ⟨t,ex++T.hb,n⟩:=by
 have e:ex++T.hb=ex++Xc id T.hb:=by rw[Kj]
 rw[e]at hc h ⊢
 refine Lu (v:=false) hq (UW hT (fun b hb=>List.mem_range.1 hb) hn hex ⟨hc.1,?_,hc.2.2⟩) rfl (WT.gM hT) (by have:=nH (Nat.zero_le 67) (x:=.cells [r]) (by simpa [bG,ai] using hr);simpa [bG,ai] using this) (by rw[UX hT hr];exact h)
 rw[hc.2.1];rfl
end
section
variable {P:Program} {c:Cx}
theorem HP {d:Option Nat} {f:FuncId} {xs:List TV} {args:List AV} {T:WT} {n:Nat} {r:AV} {t:List (Nat × AV)} {ex:List (Nat × Bk)} {anc:List Nat} {fs:List bq} {r0:List bF} {K:St→Prop} (hq:GD P c.gl f args T.hb 67 (List.range 67) r T.hb) (hT:T.wf) (hn:67≤n) (hex:∀ q ∈ ex,67≤q.1∧q.1 < n)
  (hc:Qv none (aG c.gl (⟨t,ex++T.hb,n⟩:St).fs xs)∧(aG c.gl (⟨t,ex++T.hb,n⟩:St).fs xs).map Qk=args∧ai 67 args) (hr:Qe 0 r) (h:XD P c anc r0 (⟨Xp xs,ib id 67 n,d.toList,ib id 67 n⟩::fs) K (St.bQ ⟨t,ex++T.hb,n + 67⟩ d r)):Zr P c anc (.pd d (.call f) xs none) r0 fs K ⟨t,ex++T.hb,n⟩:=by
 have e:ex++T.hb=ex++Xc id T.hb:=by rw[Kj]
 rw[e]at hc h ⊢
 refine Df (v:=false) hq (UW hT (fun b hb=>List.mem_range.1 hb) hn hex ⟨hc.1,?_,hc.2.2⟩) rfl (WT.gM hT) (by have:=nH (Nat.zero_le 67) (x:=.cells [r]) (by simpa [bG,ai] using hr);simpa [bG,ai] using this) (by rw[UX hT hr];exact h)
 rw[hc.2.1];rfl
end
theorem Vh (gl:Nat→AV) (S:NS) (T:WT) (D:List Tm) (hS:NB S) (hW:WI T S.now D) (m:Mp) (hm:DB m) (free:Bool):GD Tryz.prog gl 90 [.ptr 67 0,.agg m.enc,.bool free] (Qm S T) 70 (List.range 70) (.isl 1 (Zn [S.ev m free])) (Qm S T):=by
 have hT:=hW.wf
 refine Xkz.gq (of_decide_eq_true rfl) (Zs hT) (fun b hb=>List.mem_range.1 hb) fun c aY hg=>?_
 conv in aO _ _=>cbv
 have aH:=fun n b hb=>Ya (S:=S) hT n b hb
 have bI:=Kx S T
 have aV:=NS.aS hS.wf
 have ja:=NS.ja hS.wf
 have im:=hW.gO c.gl
 have hB:=GZ c.gl m.port hm.2.2.2.2
 unfold vE at hB
 obtain ⟨mp,ms,mi,ma,mt⟩:=m
 unfold NS.ev Mp.enc
 dsimp only at hB ⊢
 refine Qh @aH ?_
 refine Qy hB (An @aH (An @bI (An @aV @ja))) ?_
 refine HP (ex:=[(70,_),(67,_),(68,_),(69,_)]) im hT aR au (by exact Qs) (by simp[Qe]) ?_
 refine Qf ?_
 have oV:=fun n b hb=>WT.oK hT n (b:=b) hb
 refine Zm (An @aH @oV) ?_
 refine Qh (An @aH @oV) ?_
 refine ⟨(),(To.fC (b:=138) (i:=0) rfl rfl).trans (To.jY (S:=S) (T:=T) (ex:=[(138,.dead),(138,_),(70,_)]) hT au (fun b hb=>List.mem_range.1 hb) ?_)⟩
 simp[Qu,Qe,ai,look,aD,ay,Zn,Ev.enc]
theorem Ye1 {S:NS} {t:Tm} (h:t ∈ S.a6):∃ q ∈ S.fl,t.id=q.1∧t.due=q.2.due.toNat:=by
 obtain ⟨q,hq,rfl⟩:=List.mem_map.1 h
 exact ⟨q,hq,rfl,rfl⟩
theorem Xnf {S:NS} (h:NB S) (hl:S.fl.length < 48) {D:List Tm} (hD:D.Perm S.a6) (f:Fl) :
  yG S.now D (S.b8 + 1) (S.now + Ki f.map.ae f.st)=(0,D++[⟨S.b8 + 1,(S.now + Ki f.map.ae f.st).toNat⟩])∧List.Perm (D++[(⟨S.b8 + 1,(S.now + Ki f.map.ae f.st).toNat⟩:Tm)]) (S.begin f).a6:=by
 have hb:=HI f.map.ae f.st
 have hn:=h.now
 have hlen:D.length < 400:=by rw[hD.length_eq];simp[NS.a6];omega
 have bX:∀ t ∈ D,t.id≠S.b8 + 1:=fun t ht e=>by
  obtain ⟨q,hq,e1,_⟩:=Ye1 (hD.mem_iff.1 ht)
  have:=(h.ids q hq).2
  omega
 refine ⟨?_,?_⟩
 ·unfold yG
  rw[if_neg af,if_neg af]
  have e:Uf D (S.b8 + 1) (max (S.now + Ki f.map.ae f.st).toNat S.now)=D++[⟨S.b8 + 1,(S.now + Ki f.map.ae f.st).toNat⟩]:=by
   unfold Uf
   rw[Hr bX,show max (S.now + Ki f.map.ae f.st).toNat S.now=(S.now + Ki f.map.ae f.st).toNat by omega]
  rw[e]
 ·have e:(S.begin f).a6=S.a6++[⟨S.b8 + 1,(S.now + Ki f.map.ae f.st).toNat⟩]:=by
   simp[NS.a6,NS.begin]
  rw[e]
  exact hD.append_right _
def nr (σ:Nat→Nat) (k b:Nat):Nat:=if b < 67 then σ b else if b=69 then k else b
theorem Kw {σ:Nat→Nat} {k b:Nat} (h:b < 67):nr σ k b=σ b:=if_pos h
def NS.Bn (S:NS) (k w:Nat):List AV:=[.mp 68,.sl 1 k 0 S.fl.length S.fl.length,.int .i64 S.b8,.ptr w 0,.int .i64 S.told,.int .i64 S.ref,.int .i64 S.aF,.bool S.loose]
theorem NS.jZ (S:NS) (ρ:Nat→Nat):ay ρ S.cells=S.tb.enc++[.mp (ρ 68),.sl 1 (ρ 69) 0 S.fl.length S.fl.length,.int .i64 S.b8,.ptr (ρ 0) 0,.int .i64 S.told,.int .i64 S.ref,.int .i64 S.aF,.bool S.loose]:=by
 unfold NS.cells NS.tl
 rw[Co,Tb.dw]
 simp[ay,aD]
theorem Vi (ρ:Nat→Nat) (l:List (Int × Fl)):Xg ρ (.aE (fR l) false)=.aE (fR l) false:=by
 simp only[Xg]
 congr 1
 refine (List.map_congr_left fun q hq=>?_).trans (List.map_id _)
 obtain ⟨h1,h2⟩:=U3 0 l q hq
 show (aD ρ q.1,aD ρ q.2)=q
 rw[Ks h1,Ks h2]
theorem Vj (ρ:Nat→Nat) (l:List Int):Xg ρ (.cells (Qp l))=.cells (Qp l):=by
 simp only[Xg,zV]
theorem To.yM {p:List Nat} {t t':List (Nat × AV)} {ex:List (Nat × Bk)} {S:NS} {T:WT} {σ:Nat→Nat} {n k:Nat} (hT:T.wf) (hp:∀ b ∈ p,b=67∨b=68) (bT:∀ b b',b < 67→b' < 67→σ b=σ b'→b=b') (hex:∀ q ∈ ex,∀ b,b < 67→σ b≠q.1) (hk:k≠67∧k≠68) (aI:∀ b,b < 67→σ b≠67∧σ b≠68∧σ b≠k)
  (nS:Qc (ex++Xc σ T.hb) n 67=.cells (S.tb.enc++S.Bn k (σ 0))) (qa:Qc (ex++Xc σ T.hb) n 68=.aE (fR S.fl) false) (yN:Qc (ex++Xc σ T.hb) n k=.cells (Qp S.keys)) (ht:Qu (nr σ k) 70 t t'):To p ⟨t,ex++Xc σ T.hb,n⟩ ⟨t',Qm S T,70⟩:=by
 have yO:nr σ k 67=67:=rfl
 have uJ:nr σ k 68=68:=rfl
 have rH:nr σ k 69=k:=rfl
 refine To.NN (nr σ k) hT (fun b hb=>?_) (fun b b' hb bJ e=>?_) (fun b hb=>?_) ht
 ·rcases hp b hb with rfl|rfl<;>exact ⟨rfl,by decide⟩
 ·rcases (by omega:b < 67∨b=67∨b=68∨b=69) with h|rfl|rfl|rfl<;>rcases (by omega:b' < 67∨b'=67∨b'=68∨b'=69) with h'|rfl|rfl|rfl
  ·rw[Kw h,Kw h']at e;exact bT _ _ h h' e
  ·rw[Kw h]at e;exact absurd e (aI _ h).1
  ·rw[Kw h]at e;exact absurd e (aI _ h).2.1
  ·rw[Kw h]at e;exact absurd e (aI _ h).2.2
  ·rw[Kw h']at e;exact absurd e.symm (aI _ h').1
  ·rfl
  ·cases e
  ·exact absurd e.symm hk.1
  ·rw[Kw h']at e;exact absurd e.symm (aI _ h').2.1
  ·cases e
  ·rfl
  ·exact absurd e.symm hk.2
  ·rw[Kw h']at e;exact absurd e.symm (aI _ h').2.2
  ·exact absurd e hk.1
  ·exact absurd e hk.2
  ·rfl
 ·rcases (by omega:b < 67∨b=67∨b=68∨b=69) with h|rfl|rfl|rfl
  ·rw[Kw h,UU hT bT hex h]
   have e:Qc (Qm S T) 70 b=Qc T.hb 67 b:=by
    unfold Qm
    rw[Qd,if_neg af,Qd,if_neg af,Qd,if_neg af]
    exact ((WT.gM hT).live h 70).1
   rw[e]
   exact Wv (n:=67) (fun b hb=>(Kw hb).symm) (Ny hT h).2
  ·rw[yO,nS,Kx]
   show _=Bk.cells (ay (nr σ k) S.cells)
   rw[NS.jZ,uJ,rH,Kw (by decide:0 < 67)]
   rfl
  ·rw[uJ,qa,v8,Vi]
  ·rw[rH,yN,wa,Vj]
theorem NS.NT {S:NS} (h:S.tb.wf) (v:Int):S.cells.set 32 (.int .i64 v)=({ S with b8:=v }:NS).cells:=NS.dm h 2 _
theorem Vk (gl:Nat→AV) (S:NS) (T:WT) (D:List Tm) (hS:NB S) (uI:S.b8≤1000000) (hW:WI T S.now D) (hD:D.Perm S.a6) (hl:S.fl.length < 48) (m:Mp) (r rp st:Int):∃ T' D',WI T' S.now D'∧D'.Perm (S.begin ⟨m,r,rp,st,0,0⟩).a6 ∧
  GD Tryz.prog gl 91 [.ptr 67 0,.agg (Fl.enc ⟨m,r,rp,st,0,0⟩)] (Qm S T) 70 [67] (.aX []) (Qm (S.begin ⟨m,r,rp,st,0,0⟩) T'):=by
 have hT:=hW.wf
 obtain ⟨ha,j0⟩:=Xnf hS hl hD ⟨m,r,rp,st,0,0⟩
 obtain ⟨T',lC,gN⟩:=hW.ry gl (S.b8 + 1) (S.now + Ki m.ae st)
 dsimp only at ha j0
 rw[ha]at lC gN
 refine ⟨T',_,lC,j0,?_⟩
 dsimp only at gN
 have eU:=lC.wf
 clear lC j0 ha
 refine Xks.gq (of_decide_eq_true rfl) (Zs hT) au fun c aY hg=>?_
 subst hg
 conv in aO _ _=>cbv
 have aH:=fun n b hb=>Ya (S:=S) hT n b hb
 have bI:=Kx S T
 have rF:=v8 S T
 have wc:=wa S T
 have aV:=NS.aS hS.wf
 have HJ:=NS.HJ hS.wf
 have NT:=NS.NT hS.wf (S.b8 + 1)
 have fZ:=NS.aS (S:={ S with b8:=S.b8 + 1 }) hS.wf
 have d30:=NS.eZ (S:={ S with b8:=S.b8 + 1 }) hS.wf
 have d31:=NS.jI (S:={ S with b8:=S.b8 + 1 }) hS.wf
 have d32:=NS.HJ (S:={ S with b8:=S.b8 + 1 }) hS.wf
 have d33:=NS.ja (S:={ S with b8:=S.b8 + 1 }) hS.wf
 dsimp only at d31 d32
 have s31:∀ v,({ S with b8:=S.b8 + 1 }:NS).cells.set 31 v=S.tb.enc++({ S with b8:=S.b8 + 1 }:NS).tl.set 1 v:=fun v=>NS.dm (S:={ S with b8:=S.b8 + 1 }) hS.wf 1 v
 generalize ({ S with b8:=S.b8 + 1 }:NS).cells=C1 at *
 have im:=hW.gO c.gl
 have rI:=UZ c.gl m.ae st
 have Vl:=HI m.ae st
 have hn:=hS.now
 have p1a:=hS.lT
 obtain ⟨mp,ms,mi,ma,mt⟩:=m
 unfold Fl.enc Up
 dsimp only at rI Vl gN ⊢
 obtain ⟨L,hL⟩:∃ L,L=Ki mp st:=⟨_,rfl⟩
 rw[← hL]at rI Vl gN
 refine Qh (An @aH (An @bI (An @aV (An @HJ @NT)))) ?_
 refine HP (ex:=[(67,_),(70,_),(67,_),(68,_),(69,_)]) im hT aR au (by exact Qr (An @fZ @d33)) (by simp[Qe]) ?_
 refine Qf ?_
 have oV:=fun n b hb=>WT.oK hT n (b:=b) hb
 have dZ:=yL S.fl
 have dW:=pU (S.b8 + 1)
 have ki:=Xui (l:=S.fl) (x:=S.b8 + 1) (fun q hq e=>by have:=(hS.ids q hq).2;omega) ⟨⟨mp,ms,mi,ma,mt⟩,r,rp,st,0,S.now + L⟩
 unfold Fl.enc Up at ki
 dsimp only at ki
 have iO:=Er S
 ((first|apply Yx|apply Ym|apply Xz|apply Xs)<;>(first|exact rI|(refine XG ?_;first|exact rfl|exact True.intro|((try (repeat' with_reducible refine And.intro ?_ ?_));(try any_goals (first|refine zm ?_|exact CL|fail))))))
 exact Qr (An @d33 (An @d32 (An @d30 @fZ)))
 ((first|refine CZ Wh ?_|refine C0 Wh ?_);(have aB:=@dZ;have aQ:=@dW;have a8:=@ki;have bU:=@d33;have cI:=@d32;have dC:=@d30;have fc:=@fZ;refine XG ?_;clear aB aQ a8 bU cI dC fc;((try (repeat' with_reducible refine And.intro ?_ ?_));(try any_goals (first|refine zm ?_|exact CL|fail)))))
 refine Qh (An @d31 (An @d32 @fZ)) ?_
 have f33:(C1.set 31 (AV.sl 1 139 0 (S.fl.length + 1) (S.fl.length + 1))).getD 33 AV.any=.ptr 0 0:=by rw[xf (by rw[fZ];decide),if_neg aR];exact d33
 have f32:(C1.set 31 (AV.sl 1 139 0 (S.fl.length + 1) (S.fl.length + 1))).getD 32 AV.any=.int .i64 (S.b8 + 1):=by rw[xf (by rw[fZ];decide),if_neg aR];exact d32
 refine Zm (An @oV @iO) ?_
 refine Zm (An @oV (An @iO (An @fZ (An @f33 @f32)))) ?_
 have hC2:=s31 (.sl 1 139 0 (S.fl.length + 1) (S.fl.length + 1))
 refine HH (v:=false) (ex:=[(67,_),(139,_),(69,_),(138,_),(68,_),(70,_),(67,_),(70,_),(67,_),(68,_),(69,_)]) gN (WT.gM hT) (WT.gM eU) (by simp[Qe]) aR aR au rfl ?_ ?_
 ·exact Qr (An @Xw (An @f33 @f32))
 rw[NA (by simp[Qe])]
 refine Qf ?_
 refine ⟨(),To.yM (p:=[67]) (n:=207) (σ:=gH 140) (ex:=[(67,_),(139,_),(69,_),(138,_),(68,_),(70,_),(67,_),(70,_),(67,_),(68,_),(69,_)]) (k:=139) eU au (fun b b' h h' e=>Nz aR h h' e) ?_ aR ?_ ?_ ?_ ?_ (by simp[Qu,Qe,ai,look,aD,ay])⟩
 ·intro q hq b hb e
  have h1:gH 140 b < 2∨142≤gH 140 b:=by unfold gH;split<;>omega
  simp at hq
  rcases hq with rfl|rfl|rfl|rfl|rfl|rfl|rfl|rfl|rfl|rfl|rfl<;>dsimp only at e<;>omega
 ·intro b hb
  have h1:gH 140 b < 2∨142≤gH 140 b:=by unfold gH;split<;>omega
  omega
 ·show Bk.cells _=_
  rw[hC2]
  simp[NS.begin,NS.Bn,NS.tl,Yet]
 ·show Bk.aE _ _=_
  simp only[NS.begin,← hL]
 ·show Bk.cells _=_
  simp[NS.begin,NS.keys]
theorem Et {l:List (Int × Fl)} (hd:l.Pairwise fun p q=>p.1≠q.1) {q r:Int × Fl} (hq:q ∈ l) (hr:r ∈ l) (e:q.1=r.1):q=r:=by
 have hp:=List.pairwise_iff_getElem.1 hd
 obtain ⟨i,hi,rfl⟩:=List.getElem_of_mem hq
 obtain ⟨j,hj,rfl⟩:=List.getElem_of_mem hr
 rcases Nat.lt_trichotomy i j with h1|h1|h1
 ·exact (hp i j hi hj h1 e).elim
 ·subst h1;rfl
 ·exact (hp j i hj hi h1 e.symm).elim
theorem Vm {S:NS} (hd:S.fl.Pairwise fun p q=>p.1≠q.1) {q:Int × Fl} (hq:q ∈ S.fl) (p:Pk) (cg:Bool):(S.goes q.1 p cg).fl=S.fl.map fun r=>if r.1=q.1 then (r.1,q.2.next p cg S.now) else r:=by
 unfold NS.goes
 refine List.map_congr_left fun r hr=>?_
 split
 ·rename_i e
  rw[Et hd hr hq e]
 ·rfl
theorem Vn {S:NS} (hd:S.fl.Pairwise fun p q=>p.1≠q.1) {q:Int × Fl} (hq:q ∈ S.fl) (p:Pk) (cg:Bool):∃ A B:List Tm,S.a6=A++⟨q.1,q.2.due.toNat⟩::B∧(S.goes q.1 p cg).a6=A++⟨q.1,(q.2.next p cg S.now).due.toNat⟩::B∧∀ t ∈ A++B,t.id≠q.1:=by
 obtain ⟨i,hi,rfl⟩:=List.getElem_of_mem hq
 have hs:S.fl=S.fl.take i++S.fl[i]::S.fl.drop (i + 1):=by rw[← List.drop_eq_getElem_cons hi,List.take_append_drop]
 have iV:=List.pairwise_iff_getElem.1 hd
 have hA:∀ r ∈ S.fl.take i,r.1≠S.fl[i].1:=fun r hr=>by
  obtain ⟨j,hj,rfl⟩:=List.getElem_of_mem hr
  rw[List.length_take]at hj
  rw[List.getElem_take]
  exact iV j i af hi af
 have hB:∀ r ∈ S.fl.drop (i + 1),r.1≠S.fl[i].1:=fun r hr=>by
  obtain ⟨j,hj,rfl⟩:=List.getElem_of_mem hr
  rw[List.length_drop]at hj
  rw[List.getElem_drop]
  exact (iV i (i + 1 + j) hi af af).symm
 have hid:∀ l:List (Int × Fl),(∀ r ∈ l,r.1≠S.fl[i].1)→(l.map fun r=>if r.1=S.fl[i].1 then (r.1,S.fl[i].2.next p cg S.now) else r)=l:=fun l hl=>(List.map_congr_left fun r hr=>by rw[if_neg (hl r hr)];rfl).trans (List.map_id l)
 refine ⟨(S.fl.take i).map fun q=>⟨q.1,q.2.due.toNat⟩,(S.fl.drop (i + 1)).map fun q=>⟨q.1,q.2.due.toNat⟩,?_,?_,?_⟩
 ·unfold NS.a6
  conv=>lhs;rw[hs]
  rw[List.map_append,List.map_cons]
 ·unfold NS.a6
  rw[Vm hd (List.getElem_mem hi)]
  have:(S.fl.map fun r=>if r.1=S.fl[i].1 then (r.1,S.fl[i].2.next p cg S.now) else r)=S.fl.take i++(S.fl[i].1,S.fl[i].2.next p cg S.now)::S.fl.drop (i + 1):=by
   generalize hx:S.fl[i]=x at *
   conv=>lhs;rw[hs]
   rw[List.map_append,List.map_cons,hid _ hA,hid _ hB,if_pos rfl]
  rw[this,List.map_append,List.map_cons]
 ·intro t ht
  rcases List.mem_append.1 ht with ht|ht
  ·obtain ⟨r,hr,rfl⟩:=List.mem_map.1 ht
   exact hA r hr
  ·obtain ⟨r,hr,rfl⟩:=List.mem_map.1 ht
   exact hB r hr
theorem Xx4 {S:NS} (h:NJ S) {D:List Tm} (hD:D.Perm S.a6) {q:Int × Fl} (hq:q ∈ S.fl) (p:Pk) (cg:Bool) (hd:(S.now:Int) + 4≤(q.2.next p cg S.now).due∧(q.2.next p cg S.now).due≤S.now + 60) :
  ∃ D',yG S.now D q.1 (q.2.next p cg S.now).due=(0,D')∧D'.Perm (S.goes q.1 p cg).a6:=by
 obtain ⟨A,B,e1,e2,e3⟩:=Vn h.dM hq p cg
 have hn:=h.now
 have bH:(⟨q.1,q.2.due.toNat⟩:Tm) ∈ D:=hD.mem_iff.2 (by rw[e1];simp)
 have NU:jV D q.1=true:=List.any_eq_true.2 ⟨_,bH,by simp⟩
 refine ⟨Uf D q.1 (q.2.next p cg S.now).due.toNat,?_,?_⟩
 ·unfold yG
  rw[if_neg af,if_neg (by rw[NU];simp),show max (q.2.next p cg S.now).due.toNat S.now=(q.2.next p cg S.now).due.toNat by omega]
 ·unfold Uf
  rw[e2]
  refine (List.perm_append_singleton _ _).trans ?_
  refine List.Perm.trans ?_ List.perm_middle.symm
  refine List.Perm.cons _ ?_
  have h1:(Yd q.1 D).Perm (Yd q.1 S.a6):=hD.filter _
  refine h1.trans ?_
  rw[e1]
  unfold Yd
  rw[List.filter_append,List.filter_cons,if_neg au,← List.filter_append,List.filter_eq_self.2 fun t ht=>by simpa using e3 t ht]
theorem Xj0 {S:NS} (h:NJ S) {q:Int × Fl} (hq:q ∈ S.fl) (p:Pk) (cg:Bool) (hd:(q.2.next p cg S.now).due=q.2.due):(S.goes q.1 p cg).a6=S.a6:=by
 obtain ⟨A,B,e1,e2,_⟩:=Vn h.dM hq p cg
 rw[e1,e2,hd]
theorem To.eI {p:List Nat} {t t':List (Nat × AV)} {ex:List (Nat × Bk)} {S:NS} {T:WT} {n k:Nat} (hT:T.wf) (hp:∀ b ∈ p,b=67∨b=68) (hex:∀ q ∈ ex,67≤q.1) (hk:k≠67∧k≠68) (hk2:67≤k)
  (nS:Qc (ex++T.hb) n 67=.cells (S.tb.enc++S.Bn k 0)) (qa:Qc (ex++T.hb) n 68=.aE (fR S.fl) false) (yN:Qc (ex++T.hb) n k=.cells (Qp S.keys)) (ht:Qu (nr id k) 70 t t'):To p ⟨t,ex++T.hb,n⟩ ⟨t',Qm S T,70⟩:=by
 have:=To.yM (p:=p) (t:=t) (t':=t') (ex:=ex) (S:=S) (σ:=id) (n:=n) (k:=k) hT hp (fun b b' _ _ e=>e) (fun q hq b hb e=>by have:=hex q hq;have e:b=q.1:=e;omega) hk (fun b hb=>by show b≠67∧b≠68∧b≠k;omega)
 rw[Kj]at this
 exact this nS qa yN ht
theorem Xnt {S:NS} (hd:S.fl.Pairwise fun p q=>p.1≠q.1) {q:Int × Fl} (hq:q ∈ S.fl) (p:Pk) (cg:Bool):pH (fR S.fl) (.int .i64 q.1) (.agg (q.2.next p cg S.now).enc)=fR (S.goes q.1 p cg).fl:=by
 rw[Vm hd hq]
 obtain ⟨i,hi,rfl⟩:=List.getElem_of_mem hq
 exact Xyg hd hi _
theorem HQ {l:List (Int × Fl)} (hd:l.Pairwise fun p q=>p.1≠q.1) {q:Int × Fl} (hq:q ∈ l) (z:AV):pG (fR l) (.int .i64 q.1) z=.agg q.2.enc:=by
 obtain ⟨i,hi,rfl⟩:=List.getElem_of_mem hq
 exact NM hd hi z
theorem Xlm (S:NS) (k:Int) (p:Pk) (cg:Bool):(S.goes k p cg).keys=S.keys:=by
 unfold NS.keys NS.goes
 rw[List.map_map]
 exact List.map_congr_left fun q _=>by dsimp only[Function.comp];split<;>rfl
theorem Xwf (S:NS) (k:Int) (p:Pk) (cg:Bool):(S.goes k p cg).fl.length=S.fl.length:=by unfold NS.goes;exact List.length_map ..
theorem Vo (gl:Nat→AV) (S:NS) (T:WT) (D:List Tm) (hS:NI S) (hW:WI T S.now D) (hD:D.Perm S.a6) (q:Int × Fl) (hq:q ∈ S.fl) (p:Pk) (cg:Bool):∃ T' D',WI T' S.now D'∧D'.Perm (S.goes q.1 p cg).a6 ∧
  GD Tryz.prog gl 93 [.ptr 67 0,.int .i64 q.1,.agg p.enc,.bool cg] (Qm S T) 70 [67] (.aX []) (Qm (S.goes q.1 p cg) T'):=by
 have hT:=hW.wf
 have Vp:=hS.now
 have iv:=U2 q.2.map.ae q.2.st q.2.side q.2.due p.flags cg (now:=S.now) af af
 have eK:=HQ hS.dM hq (.agg Fl.zero)
 have ki:=Xnt hS.dM hq p cg
 have kn:=Xlm S q.1 p cg
 have fD:=Xwf S q.1 p cg
 have Bo:(S.goes q.1 p cg).tb=S.tb:=rfl
 have dW:=pU q.1
 have dZ:=yL S.fl
 have iO:=Er S
 by_cases dH:(q.2.next p cg S.now).due=q.2.due
 ·refine ⟨T,D,hW,by rw[Xj0 hS.toNJ hq p cg dH];exact hD,?_⟩
  refine U6.gq (of_decide_eq_true rfl) (Zs hT) au fun c aY hg=>?_
  subst hg
  conv in aO _ _=>cbv
  have aH:=fun n b hb=>Ya (S:=S) hT n b hb
  have bI:=Kx S T
  have rF:=v8 S T
  have wc:=wa S T
  have aV:=NS.aS hS.wf
  have eZ:=NS.eZ hS.wf
  have ja:=NS.ja hS.wf
  have oV:=fun n b hb=>WT.oK hT n (b:=b) hb
  have im:=hW.gO c.gl
  obtain ⟨k,f⟩:=q
  obtain ⟨⟨mp,ms,mi,ma,mt⟩,r,rp,st,sd,du⟩:=f
  obtain ⟨p1,p2,p3,p4,p5,p6,p7,p8,p9,fS,fT,pb⟩:=p
  have hN:=U0 c.gl mp ms mi ma mt r rp st sd du p1 p2 p3 p4 p5 p6 p7 p8 p9 fS fT pb cg S.now
  unfold Fl.next at ki dH
  unfold Fl.enc Up at eK ki
  unfold Up at hN
  unfold Pk.enc
  dsimp only at eK ki hN dW dH kn fD ⊢
  generalize oS mp st sd du p8 cg S.now=x at *
  obtain ⟨x1,x2,x3⟩:=x
  dsimp only at ki hN dH
  subst dH
  refine Qh (An @aH (An @bI (An @aV @eZ))) ?_
  ((first|refine oz Wh ?_|refine Ut Wh ?_);(have aB:=@rF;have aQ:=@dZ;have a8:=@dW;have bU:=@eK;have cI:=@aH;have dC:=@bI;have fc:=@aV;have jk:=@ja;refine XG ?_;clear aB aQ a8 bU cI dC fc jk;((try (repeat' with_reducible refine And.intro ?_ ?_));(try any_goals (first|refine zm ?_|exact CL|fail)))))
  refine HP (ex:=[(70,_),(67,_),(68,_),(69,_)]) im hT aR au (by exact Qr (An @aV @ja)) (by simp[Qe]) ?_
  refine Qf ?_
  refine Qy hN @oV ?_
  refine Qh (An @aV (An @eZ @oV)) ?_
  ((first|refine oz Wh ?_|refine Ut Wh ?_);(have aB:=@dZ;have aQ:=@dW;have a8:=@eK;have bU:=@aV;have cI:=@eZ;have dC:=@oV;refine XG ?_;clear aB aQ a8 bU cI dC;((try (repeat' with_reducible refine And.intro ?_ ?_));(try any_goals (first|refine zm ?_|exact CL|fail)))))
  (refine Qa (fun h1=>?_) (fun h1=>?_)<;>try exact h1.elim)
  refine Qh (An @aV @eZ) ?_
  ((first|refine CZ Wh ?_|refine C0 Wh ?_);(have aB:=@dZ;have aQ:=@dW;have a8:=@ki;have bU:=@aV;have cI:=@eZ;refine XG ?_;clear aB aQ a8 bU cI;((try (repeat' with_reducible refine And.intro ?_ ?_));(try any_goals (first|refine zm ?_|exact CL|fail)))))
  refine ⟨(),To.eI (ex:=[(68,_),(138,_),(138,_),(70,_),(67,_),(68,_),(69,_)]) (k:=69) hT au au aR aR ?_ rfl ?_ (by simp[Qu,Qe,ai,look,aD,ay])⟩
  ·show Bk.cells _=_
   unfold NS.cells NS.tl NS.Bn
   rw[fD]
   rfl
  ·show Bk.cells _=_
   rw[kn]
 obtain ⟨fO,dE⟩:(S.now:Int) + 4≤(q.2.next p cg S.now).due∧(q.2.next p cg S.now).due≤S.now + 60:=by
  rcases iv with h|⟨d,h1,h2,h3⟩
  ·exact absurd h dH
  ·have:(q.2.next p cg S.now).due=S.now + d:=h3
   omega
 obtain ⟨D',wi,j0⟩:=Xx4 hS.toNJ hD hq p cg ⟨fO,dE⟩
 obtain ⟨T',lC,gN⟩:=hW.ry gl q.1 (q.2.next p cg S.now).due
 rw[wi]at lC gN
 refine ⟨T',D',lC,j0,?_⟩
 have eU:=lC.wf
 clear j0 wi lC
 refine U6.gq (of_decide_eq_true rfl) (Zs hT) au fun c aY hg=>?_
 subst hg
 conv in aO _ _=>cbv
 have aH:=fun n b hb=>Ya (S:=S) hT n b hb
 have bI:=Kx S T
 have rF:=v8 S T
 have wc:=wa S T
 have aV:=NS.aS hS.wf
 have eZ:=NS.eZ hS.wf
 have ja:=NS.ja hS.wf
 have oV:=fun n b hb=>WT.oK hT n (b:=b) hb
 have im:=hW.gO c.gl
 obtain ⟨k,f⟩:=q
 obtain ⟨⟨mp,ms,mi,ma,mt⟩,r,rp,st,sd,du⟩:=f
 obtain ⟨p1,p2,p3,p4,p5,p6,p7,p8,p9,fS,fT,pb⟩:=p
 have hN:=U0 c.gl mp ms mi ma mt r rp st sd du p1 p2 p3 p4 p5 p6 p7 p8 p9 fS fT pb cg S.now
 unfold Fl.next at ki dH gN
 unfold Fl.enc Up at eK ki
 unfold Up at hN
 unfold Pk.enc
 clear fO dE iv
 dsimp only at eK ki hN dW dH kn fD gN ⊢
 generalize oS mp st sd du p8 cg S.now=x at *
 obtain ⟨x1,x2,x3⟩:=x
 dsimp only at ki hN dH
 refine Qh (An @aH (An @bI (An @aV @eZ))) ?_
 ((first|refine oz Wh ?_|refine Ut Wh ?_);(have aB:=@rF;have aQ:=@dZ;have a8:=@dW;have bU:=@eK;have cI:=@aH;have dC:=@bI;have fc:=@aV;have jk:=@ja;refine XG ?_;clear aB aQ a8 bU cI dC fc jk;((try (repeat' with_reducible refine And.intro ?_ ?_));(try any_goals (first|refine zm ?_|exact CL|fail)))))
 refine HP (ex:=[(70,_),(67,_),(68,_),(69,_)]) im hT aR au (by exact Qr (An @aV @ja)) (by simp[Qe]) ?_
 refine Qf ?_
 refine Qy hN @oV ?_
 refine Qh (An @aV (An @eZ @oV)) ?_
 ((first|refine oz Wh ?_|refine Ut Wh ?_);(have aB:=@dZ;have aQ:=@dW;have a8:=@eK;have bU:=@aV;have cI:=@eZ;have dC:=@oV;refine XG ?_;clear aB aQ a8 bU cI dC;((try (repeat' with_reducible refine And.intro ?_ ?_));(try any_goals (first|refine zm ?_|exact CL|fail)))))
 (refine Qa (fun h1=>?_) (fun h1=>?_)<;>try exact h1.elim)
 rotate_left
 ·exact absurd h1 (by simpa using dH)
 refine Qh (An @aV @ja) ?_
 refine HH (v:=false) (ex:=[(138,_),(138,_),(70,_),(67,_),(68,_),(69,_)]) gN (WT.gM hT) (WT.gM eU) (by simp[Qe]) aR aR au rfl ?_ ?_
 ·exact Qr (An @Xw (An @aV @ja))
 rw[NA (by simp[Qe])]
 refine Qh (An @aV @eZ) ?_
 ((first|refine CZ Wh ?_|refine C0 Wh ?_);(have aB:=@dZ;have aQ:=@dW;have a8:=@ki;have bU:=@aV;have cI:=@eZ;refine XG ?_;clear aB aQ a8 bU cI;((try (repeat' with_reducible refine And.intro ?_ ?_));(try any_goals (first|refine zm ?_|exact CL|fail)))))
 refine ⟨(),To.yM (p:=[67]) (n:=206) (σ:=gH 139) (ex:=[(68,_),(138,_),(138,_),(70,_),(67,_),(68,_),(69,_)]) (k:=69) eU au (fun b b' h h' e=>Nz aR h h' e) ?_ aR ?_ ?_ rfl ?_ (by simp[Qu,Qe,ai,look,aD,ay])⟩
 ·intro q hq b hb e
  have h1:gH 139 b < 2∨141≤gH 139 b:=by unfold gH;split<;>omega
  simp at hq
  rcases hq with rfl|rfl|rfl|rfl|rfl|rfl|rfl<;>dsimp only at e<;>omega
 ·intro b hb
  have h1:gH 139 b < 2∨141≤gH 139 b:=by unfold gH;split<;>omega
  omega
 ·show Bk.cells _=_
  unfold NS.cells NS.tl NS.Bn
  rw[fD]
  rfl
 ·show Bk.cells _=_
  rw[kn]
section
variable {P:Program} {c:Cx}
theorem Xwu {anc:List Nat} {fs:List bq} {r0:List bF} {K:St→Prop} {s:St} {d:Nat} {t:TypeId} {ok:Bool} {xs:List TV} {gd:Option (Nat × Bool)} {wide:Bool} {ks:List SK} {z:AV} (hT:dG P t wide ks z) (hb:gB s.fs gd=some true) (aU:fL s.fs gd)
  (h:Qv none (aG c.gl s.fs xs)∧pI s.fs wide ks ((aG c.gl s.fs xs).map Qk)∧XD P c anc r0 (⟨jL gd++Xp xs,[fu ((aG c.gl s.fs xs).map Qk)],[d],[]⟩::fs) K (s.put d (Au s.fs z ok ((aG c.gl s.fs xs).map Qk)))) :
  Zr P c anc (.pd (some d) (.zK t ok) xs gd) r0 fs K s:=⟨_,_,KK hb aU (Le hT h.1 h.2.1),h.2.2⟩
end
def uK (b:Int→Bool):List Int→Nat→Int
 | [],_=>-1
 | x::l,k=>if b x=true then k else uK b l (k + 1)
theorem Vq {b:Int→Bool}:∀ (l:List Int) (k:Nat),decide (0≤uK b l k)=l.any b
 | [],k=>by simp[uK]
 | x::l,k=>by
  unfold uK
  rw[List.any_cons]
  split
  ·rename_i h;rw[h];simp
  ·rename_i h;rw[Vq l (k + 1)];simp[h]
section
variable {h:List (Nat × Bk)} {m kb:Nat} {l:List Int} {f:FuncId} {caps:List AV} {b:Int→Bool}
theorem Xzm (gl:Nat→AV) (H:HL h m) (hl:l.length≤1000000) (HR:kb < m) (hk:∀ n,Qc h n kb=.cells (Qp l)) (fx:ai m caps)
  (hf:∀ x ∈ l,GD Tryz.prog gl f (.int .i64 x::caps) h m (List.range m) (.bool (b x)) h) :
  GD Tryz.prog gl 136 [.sl 1 kb 0 l.length l.length,.cl f caps] h m (List.range m) (.int .i64 (uK b l 0)) h:=by
 refine HM.gq (of_decide_eq_true rfl) H.lives (fun b hb=>List.mem_range.1 hb) fun c aY hg=>?_
 subst hg
 conv in aO _ _=>cbv
 have dD:=Ye l
 refine Qf ?_
 refine Yi (fun k:Nat=>k≤l.length∧uK b (l.drop k) k=uK b l 0) (fun k=>⟨[(0,.sl 1 kb 0 l.length l.length),(1,.cl f caps),(6,.sl 1 kb 0 l.length l.length),(7,.int .i64 l.length),(8,.int .i64 k)],h,m⟩) (fun k=>l.length - k) HM.mixed (List.range m) aY
  ⟨0,⟨by omega,rfl⟩,To.c6 (by exact Qs) fun b=>rfl⟩ fun k hk2=>?_
 obtain ⟨iO,cJ⟩:=hk2
 have gJ:∀ b ∈ List.range m,b < m:=fun b hb=>List.mem_range.1 hb
 refine Qf ?_
 (refine Qa (fun h1=>?_) (fun h1=>?_)<;>try exact h1.elim)
 ·have bB:k < l.length:=by omega
  have kn:=Bh l k bB
  have gU:l.drop k=l[k]::l.drop (k + 1):=List.drop_eq_getElem_cons bB
  rw[gU]at cJ
  rw[uK]at cJ
  have hc:=hf l[k] (List.getElem_mem bB)
  generalize l[k]=t at *
  refine Qh (An @dD (An @kn @hk)) ?_
  refine oT (v:=true) (ex:=[]) hc H H (by simp[Qe]) (Nat.le_refl m) au rfl ?_ ?_
  ·refine Qf ?_
   exact rfl
  refine Qf ?_
  (refine Qa (fun h2=>?_) (fun h2=>?_)<;>try exact h2.elim)
  ·rw[if_pos h2]at cJ
   refine Qf ?_
   refine ⟨(),?_⟩
   rw[← cJ]
   exact To.drop (ex:=[]) H au gJ (by simp[Qu,Qe,look,aD])
  ·rw[if_neg (by simpa using h2)]at cJ
   refine Qf ?_
   refine ⟨k + 1,⟨by omega,cJ⟩,To.drop (ex:=[]) H au gJ ?_,by omega⟩
   simp[Qu,Qe,ai,look,aD,fx,HR]
   exact (Jp caps).symm
 ·have:k=l.length:=by omega
  subst this
  rw[List.drop_length]at cJ
  have cJ:(-1:Int)=uK b l 0:=cJ
  refine Qf ?_
  refine ⟨(),?_⟩
  rw[← cJ]
  exact To.drop (ex:=[]) H au gJ (by simp[Qu,Qe,look,aD])
theorem Vr (gl:Nat→AV) (H:HL h m) (hl:l.length≤1000000) (HR:kb < m) (hk:∀ n,Qc h n kb=.cells (Qp l)) (fx:ai m caps)
  (hf:∀ x ∈ l,GD Tryz.prog gl f (.int .i64 x::caps) h m (List.range m) (.bool (b x)) h) :
  GD Tryz.prog gl 96 [.sl 1 kb 0 l.length l.length,.cl f caps] h m (List.range m) (.bool (l.any b)) h:=by
 refine Yas.gq (of_decide_eq_true rfl) H.lives (fun b hb=>List.mem_range.1 hb) fun c aY hg=>?_
 subst hg
 conv in aO _ _=>cbv
 have hc:=Xzm c.gl H hl HR hk fx hf
 have ha:=Vq (b:=b) l 0
 refine Qf ?_
 refine oT (v:=false) (ex:=[]) hc H H (by simp[Qe]) (Nat.le_refl m) au rfl ⟨?_,?_,?_⟩ ?_
 ·exact Qs
 ·exact Qr @Xw
 ·simp[ai,Qe,HR,fx]
 refine Qf ?_
 refine ⟨(),?_⟩
 rw[← ha]
 exact To.drop (ex:=[]) H au (fun b hb=>List.mem_range.1 hb) (by simp[Qu,Qe,look,aD])
end
section
variable {h:List (Nat × Bk)} {mm nb mb pb:Nat} {S:NS} {m:Mp}
theorem Xj7 (gl:Nat→AV) (hS:NB S) (H:HL h mm) (nS:∀ n,Qc h n 67=.cells S.cells) (qa:∀ n,Qc h n 68=.aE (fR S.fl) false) (Bp:∀ n,Qc h n nb=.cells [.ptr 67 0]) (cY:∀ n,Qc h n mb=.cells m.enc) {q:Int × Fl} (hq:q ∈ S.fl) :
  GD Tryz.prog gl 101 [.int .i64 q.1,.ptr nb 0,.ptr mb 0] h mm (List.range mm) (.bool (decide (q.2.map=m))) h:=by
 refine Xmj.gq (of_decide_eq_true rfl) H.lives (fun b hb=>List.mem_range.1 hb) fun c aY hg=>?_
 subst hg
 conv in aO _ _=>cbv
 have eK:=HQ hS.dM hq (.agg Fl.zero)
 have dW:=pU q.1
 have dZ:=yL S.fl
 have aV:=NS.aS hS.wf
 have eZ:=NS.eZ hS.wf
 obtain ⟨k,f⟩:=q
 obtain ⟨⟨p0,p1,p2,p3,p4⟩,g0,g1,g2,g3,g4⟩:=f
 obtain ⟨mp,ms,mi,ma,mt⟩:=m
 have heq:=@DN c false ⟨p0,p1,p2,p3,p4⟩ ⟨mp,ms,mi,ma,mt⟩
 unfold Mp.enc at heq cY
 unfold Fl.enc Up at eK
 dsimp only at eK heq cY dW ⊢
 refine Qh (An @Bp (An @nS (An @aV @eZ))) ?_
 ((first|refine oz Wh ?_|refine Ut Wh ?_);(have aB:=@qa;have aQ:=@dZ;have a8:=@dW;have bU:=@eK;have cI:=@cY;refine XG ?_;clear aB aQ a8 bU cI;((try (repeat' with_reducible refine And.intro ?_ ?_));(try any_goals (first|refine zm ?_|exact CL|fail)))))
 ((first|apply Yx|apply Ym|apply Xz|apply Xs)<;>(first|exact heq|(refine XG ?_;first|exact rfl|exact True.intro|((try (repeat' with_reducible refine And.intro ?_ ?_));(try any_goals (first|refine zm ?_|exact CL|fail))))))
 refine Qf ?_
 ·simp[Uw,Ue,cM];decide
 exact ⟨(),To.drop (ex:=[]) H au (fun b hb=>List.mem_range.1 hb) (by simp[Qu,Qe,look,aD])⟩
theorem Ya2 (gl:Nat→AV) (hS:NJ S) (H:HL h mm) (nS:∀ n,Qc h n 67=.cells S.cells) (qa:∀ n,Qc h n 68=.aE (fR S.fl) false) (Bp:∀ n,Qc h n nb=.cells [.ptr 67 0]) (cY:∀ n,Qc h n mb=.cells m.enc) {p:Pk} (Bq:∀ n,Qc h n pb=.cells p.enc) {q:Int × Fl} (hq:q ∈ S.fl) :
  GD Tryz.prog gl 97 [.int .i64 q.1,.ptr nb 0,.ptr mb 0,.ptr pb 0] h mm (List.range mm) (.bool (decide (q.2.map=m) && q.2.rem == p.aA)) h:=by
 refine Xyu.gq (of_decide_eq_true rfl) H.lives (fun b hb=>List.mem_range.1 hb) fun c aY hg=>?_
 subst hg
 conv in aO _ _=>cbv
 have eK:=HQ hS.dM hq (.agg Fl.zero)
 have dW:=pU q.1
 have dZ:=yL S.fl
 have aV:=NS.aS hS.wf
 have eZ:=NS.eZ hS.wf
 obtain ⟨k,f⟩:=q
 obtain ⟨⟨p0,p1,p2,p3,p4⟩,g0,g1,g2,g3,g4⟩:=f
 obtain ⟨mp,ms,mi,ma,mt⟩:=m
 obtain ⟨x1,x2,x3,x4,x5,x6,x7,x8,x9,x10,x11,xb⟩:=p
 have heq:=@DN c false ⟨p0,p1,p2,p3,p4⟩ ⟨mp,ms,mi,ma,mt⟩
 unfold Mp.enc at heq cY
 unfold Pk.enc at Bq
 unfold Fl.enc Up at eK
 dsimp only at eK heq cY Bq dW ⊢
 refine Qh (An @Bp (An @nS (An @aV @eZ))) ?_
 ((first|refine oz Wh ?_|refine Ut Wh ?_);(have aB:=@qa;have aQ:=@dZ;have a8:=@dW;have bU:=@eK;have cI:=@cY;refine XG ?_;clear aB aQ a8 bU cI;((try (repeat' with_reducible refine And.intro ?_ ?_));(try any_goals (first|refine zm ?_|exact CL|fail)))))
 by_cases hm:(⟨p0,p1,p2,p3,p4⟩:Mp)=⟨mp,ms,mi,ma,mt⟩
 ·rw[decide_eq_true hm]at heq ⊢
  refine Qy heq (An @Bp (An @nS (An @aV (An @eZ @Bq)))) ?_
  refine Xwu Wh ?_ ?_ ?_
  ·exact Qs
  ·exact Qs
  (have aB:=@qa;have aQ:=@dZ;have a8:=@dW;have bU:=@eK;have cI:=@cY;have dC:=@Bq;refine XG ?_;clear aB aQ a8 bU cI dC;((try (repeat' with_reducible refine And.intro ?_ ?_));(try any_goals (first|refine zm ?_|exact CL|fail))))
  ·simp[Uw,Ue,cM];decide
  exact ⟨(),To.drop (ex:=[]) H au (fun b hb=>List.mem_range.1 hb) (by simp[Qu,Qe,look,aD])⟩
 ·rw[decide_eq_false hm]at heq ⊢
  refine Qy heq (An @Bp (An @nS (An @aV (An @eZ @Bq)))) ?_
  ((first|apply Yo|apply Yc)<;>(have aB:=@Bp;have aQ:=@nS;have a8:=@aV;have bU:=@eZ;have cI:=@Bq;refine XG ?_;clear aB aQ a8 bU cI;first|exact rfl|exact True.intro|((try (repeat' with_reducible refine And.intro ?_ ?_));(try any_goals (first|refine zm ?_|exact CL|fail)))))
  ·simp[Uw,Ue,cM];decide
  exact ⟨(),To.drop (ex:=[]) H au (fun b hb=>List.mem_range.1 hb) (by simp[Qu,Qe,look,aD])⟩
end
structure NK (S:NS):Prop extends NI S where
 nx:S.b8≤2 * S.aF
 uL:S.told≤64 * S.aF
 act:S.aF≤300
theorem NI.yP {S:NS} (h:NJ S):∀ q ∈ S.fl,1≤q.1:=fun q hq=>(h.ids q hq).1
theorem NI.setRef {S:NS} (h:NI S) {r:Nat} (hr:r≤4):NI { S with ref:=r } :=
 ⟨⟨h.gt,h.wf,h.ids,h.dM,h.len,h.lS,h.has,h.rA,h.now,h.lT,hr⟩,h.due⟩
theorem NI.ko {S:NS} (h:NI S) (r:Nat):NI { S with told:=r } :=
 ⟨⟨h.gt,h.wf,h.ids,h.dM,h.len,h.lS,h.has,h.rA,h.now,h.lT,h.ref⟩,h.due⟩
theorem NI.cP {S:NS} (h:NI S) (r:Nat):NI { S with aF:=r } :=
 ⟨⟨h.gt,h.wf,h.ids,h.dM,h.len,h.lS,h.has,h.rA,h.now,h.lT,h.ref⟩,h.due⟩
structure j1 (S S':NS) (a b:Nat):Prop where
 nx:S'.b8≤S.b8 + a
 uL:S'.told≤S.told + b
 act:S'.aF=S.aF
 loose:S'.loose=S.loose
theorem j1.refl (S:NS) (a b:Nat):j1 S S a b:=⟨by omega,by omega,rfl,rfl⟩
theorem NI.refuse {S:NS} (h:NI S) (f:List UInt8) (e:Int):NI (S.refuse f e).2∧j1 S (S.refuse f e).2 0 0:=by
 unfold NS.refuse
 split
 ·exact ⟨h,j1.refl ..⟩
 ·exact ⟨h.setRef (by have:=h.ref;omega),⟨by show S.b8≤_;omega,Nat.le_refl _,rfl,rfl⟩⟩
theorem NI.yQ {S:NS} (h:NI S) {f:Fl} (aI:f.map ∈ S.tb.maps) (b9:∀ q ∈ S.fl,¬ (q.2.map=f.map∧q.2.rem=f.rem∧q.2.rport=f.rport)) (hl:S.fl.length < 48):NI (S.begin f) :=
 h.begin h.gt h.wf (fun _ hm=>hm) (fun _ hm=>.inl hm) aI b9 hl
theorem NI.aN {S:NS} (h:NI S) (f:List UInt8):NI (S.aN f).2∧j1 S (S.aN f).2 1 0:=by
 have hS:NI S∧j1 S S 1 0:=⟨h,j1.refl ..⟩
 unfold NS.aN
 split
 ·exact hS
 dsimp only
 split
 ·exact hS
 split
 ·exact hS
 split
 ·exact hS
 split
 ·exact hS
 rename_i m hm
 have sI:=List.mem_of_find?_eq_some hm
 split
 ·exact ⟨h.goes ..,⟨by show S.b8≤_;omega,Nat.le_refl _,rfl,rfl⟩⟩
 rename_i hk
 split
 ·exact hS
 split
 ·exact hS
 rename_i hlen
 refine ⟨h.yQ sI (NF (NI.yP h.toNJ) (Decidable.not_not.1 hk)) af,⟨?_,Nat.le_refl _,rfl,rfl⟩⟩
 show S.b8 + 1≤_
 omega
theorem NI.en {S:NS} (h:NI S) (f:List UInt8) (m:Mp) (es:List Ev):NI (S.en f m es).2∧j1 S (S.en f m es).2 1 es.length:=by
 have h1:NI (S.log es):=h.ko _
 unfold NS.en
 dsimp only
 split
 ·obtain ⟨g1,g2⟩:=h1.aN (Yq f 0 (3405803777 + m.a) m.port)
  exact ⟨g1,⟨g2.nx,g2.uL,g2.act,g2.loose⟩⟩
 ·exact ⟨h1,⟨by show S.b8≤_;omega,Nat.le_refl _,rfl,rfl⟩⟩
theorem NV {p:Pk} (hp:p.ae=1∨p.ae=6∨p.ae=17) {s i:Int} (h1:0≤s) (h2:s < 8) (h3:0≤i) (h4:i≤65535):Zu p.ae s i=true:=by
 unfold Zu
 simp only[Bool.and_eq_true,Bool.or_eq_true,beq_iff_eq,decide_eq_true_eq]
 omega
theorem Vs {S:NS} (hn:S.now≤549755813888) {t:Tb} (h:GT t) {m:Mp} (hm:m ∈ t.maps) (b:Bool):Ul (S.ev m b).t (S.ev m b).s (S.ev m b).a (S.ev m b).b=true:=by
 have aU:=h.maps m hm
 obtain ⟨_,⟨h3,h4⟩,_⟩:=Kp aU.1.1
 have h5:=aU.1.2.2
 have h6:=A5 m.port
 show Ul S.now m.s m.a (Xx m.port)=true
 unfold Ul
 simp only[Bool.and_eq_true,decide_eq_true_eq]
 omega
theorem NI.yR {S:NS} (h:NI S) {p:Pk} {S0:Nat} {aN:Int} (bB:Zu p.ae S0 aN=true) {x:Tb × Mp × Bool × Int} (ho:cf S.tb p.ae S0 aN x) (he:x.2.2.2=0)
  (b9:∀ q ∈ S.fl,¬ (q.2.map=x.2.1∧q.2.rem=p.dst∧q.2.rport=p.aj)) (hl:S.fl.length < 48) (st:Int):NI (({ S with tb:=x.1 }:NS).begin ⟨x.2.1,p.dst,p.aj,st,0,0⟩):=by
 have hg:=ho.ca h.gt h.wf bB
 have hw:=ho.wf h.wf
 have aI:=(ho.has he).1
 refine h.begin hg hw ?_ ?_ aI b9 hl
 ·cases ho with
  | no e lD=>exact fun m hm=>hm
  | old m hf=>exact fun m hm=>hm
  | own port=>exact fun m hm=>List.mem_append_left _ hm
  | new b k=>exact fun m hm=>List.mem_append_left _ hm
 ·cases ho with
  | no e lD=>exact fun m hm=>.inl hm
  | old m hf=>exact fun m hm=>.inl hm
  | own port=>exact fun m hm=>(List.mem_append.1 hm).imp id fun h=>List.mem_singleton.1 h
  | new b k=>exact fun m hm=>(List.mem_append.1 hm).imp id fun h=>List.mem_singleton.1 h
theorem NW {f:List UInt8} (h:bP f=0):((az f).ae=1∨(az f).ae=6∨(az f).ae=17)∧Ji (az f):=by
 have he:Yr (az f)=0:=by
  unfold bP at h
  dsimp only at h
  (repeat' split at h)<;>first|cases h|exact h
 have:=Wb he
 exact ⟨this.1,this.2.1⟩
def NS.fwd (S:NS) (p:Pk):Option Mp:=S.tb.maps.find? (Ze p.ae (p.aA - 167772161) p.ah)
def NS.cR (S:NS) (p:Pk):Int:=match S.fwd p with
 | some m=>S.findF m p.dst p.aj
 | none=>0
noncomputable def NS.opened (S:NS) (f:List UInt8) (o:Tb × Mp × Bool × Int):Rp × NS :=
 (({ S with tb:=o.1 }:NS).begin ⟨o.2.1,(az f).dst,(az f).aj,rz (az f).ae,0,0⟩).en f o.2.1 (if o.2.2.1 then [({ S with tb:=o.1 }:NS).ev o.2.1 false] else [])
theorem Br (S:NS) (f:List UInt8) (draw:Int):S.out f draw =
  if bP f≠0 then (bR (bP f),S) else
  if (az f).aA - 167772161 < 0∨8≤(az f).aA - 167772161 then (bR 7,S) else
  if (az f).ae=1∧(az f).flags≠8 then (bR 4,S) else
  if (az f).av=1 then (bR 12,S) else
  if S.cR (az f)≠0 then (match S.fwd (az f) with
   | some m=>(S.goes (S.cR (az f)) (az f) false).en f m []
   | none=>(bR 0,S))
  else if yJ (az f).ae (az f).flags=false then (bR 11,S) else
  if 48≤S.fl.length then S.refuse f 6 else
  if (S.tb.cx (az f).ae ((az f).aA - 167772161) (az f).ah draw).2.2.2≠0 then S.refuse f (S.tb.cx (az f).ae ((az f).aA - 167772161) (az f).ah draw).2.2.2 else
  S.opened f (S.tb.cx (az f).ae ((az f).aA - 167772161) (az f).ah draw):=rfl
theorem NI.opened {S:NS} (h:NI S) {f:List UInt8} (he:bP f=0) {draw:Int} (hs:¬ ((az f).aA - 167772161 < 0∨8≤(az f).aA - 167772161)) (hk:S.cR (az f)=0) (hl:S.fl.length < 48) (ho:(S.tb.cx (az f).ae ((az f).aA - 167772161) (az f).ah draw).2.2.2=0) :
  ∃ S0:Nat,(az f).aA - 167772161=S0∧S0 < 8∧Zu (az f).ae S0 (az f).ah=true∧cf S.tb (az f).ae S0 (az f).ah (S.tb.cx (az f).ae S0 (az f).ah draw)∧(∀ q ∈ S.fl,¬ (q.2.map=(S.tb.cx (az f).ae S0 (az f).ah draw).2.1∧q.2.rem=(az f).dst∧q.2.rport=(az f).aj)) ∧
  ∀ st,NI (({ S with tb:=(S.tb.cx (az f).ae S0 (az f).ah draw).1 }:NS).begin ⟨(S.tb.cx (az f).ae S0 (az f).ah draw).2.1,(az f).dst,(az f).aj,st,0,0⟩):=by
 obtain ⟨hp,hr⟩:=NW he
 obtain ⟨S0,lU⟩:∃ S0:Nat,(az f).aA - 167772161=S0:=⟨((az f).aA - 167772161).toNat,by omega⟩
 unfold NS.cR NS.fwd at hk
 rw[lU]at ho hk hs
 have bB:Zu (az f).ae S0 (az f).ah=true:=NV hp af af hr.2.2.2.2.1.1 hr.2.2.2.2.1.2
 have bh:=Proofs.YtogckmommodmhaaGreatDoor.opened h.gt h.wf bB draw
 have b9:∀ q ∈ S.fl,¬ (q.2.map=(S.tb.cx (az f).ae S0 (az f).ah draw).2.1∧q.2.rem=(az f).dst∧q.2.rport=(az f).aj):=by
  intro q hq ⟨e1,e2,e3⟩
  have aI:=h.lS q hq
  have uM:=h.gt.fwd aI
  obtain ⟨_,k1,k2,k3,_⟩:=bh.has ho
  rw[e1]at aI uM
  rw[k1,k2,k3]at uM
  rw[uM]at hk
  exact NF (NI.yP h.toNJ) hk q hq ⟨e1,e2,e3⟩
 exact ⟨S0,lU,by omega,bB,bh,b9,fun st=>h.yR bB bh ho b9 hl st⟩
theorem NI.out {S:NS} (h:NI S) (f:List UInt8) (draw:Int):NI (S.out f draw).2∧j1 S (S.out f draw).2 2 1:=by
 have hS:∀ r,NI ((r,S):Rp × NS).2∧j1 S ((r,S):Rp × NS).2 2 1:=fun r=>⟨h,j1.refl ..⟩
 have hR:∀ e,NI (S.refuse f e).2∧j1 S (S.refuse f e).2 2 1:=fun e=>by
  obtain ⟨g1,g2⟩:=h.refuse f e
  exact ⟨g1,⟨by have:=g2.nx;omega,by have:=g2.uL;omega,g2.act,g2.loose⟩⟩
 rw[Br]
 by_cases he:bP f=0
 case neg=>rw[if_pos he];exact hS _
 rw[if_neg (by simpa using he)]
 by_cases hs:(az f).aA - 167772161 < 0∨8≤(az f).aA - 167772161
 ·rw[if_pos hs];exact hS _
 rw[if_neg hs]
 by_cases h2:(az f).ae=1∧(az f).flags≠8
 ·rw[if_pos h2];exact hS _
 rw[if_neg h2]
 by_cases h3:(az f).av=1
 ·rw[if_pos h3];exact hS _
 rw[if_neg h3]
 by_cases hk:S.cR (az f)=0
 case neg =>
  rw[if_pos hk]
  cases S.fwd (az f) with
  | none=>exact hS _
  | some m =>
   obtain ⟨g1,g2⟩:=(h.goes (S.cR (az f)) (az f) false).en f m []
   dsimp only
   refine ⟨g1,⟨?_,?_,g2.act,g2.loose⟩⟩
   ·have h3:_≤S.b8 + 1:=g2.nx
    omega
   ·have h3:_≤S.told + 0:=g2.uL
    omega
 rw[if_neg (by simpa using hk)]
 by_cases h4:yJ (az f).ae (az f).flags=false
 ·rw[if_pos h4];exact hS _
 rw[if_neg h4]
 by_cases hl:48≤S.fl.length
 ·rw[if_pos hl];exact hR _
 rw[if_neg hl]
 by_cases ho:(S.tb.cx (az f).ae ((az f).aA - 167772161) (az f).ah draw).2.2.2=0
 case neg=>rw[if_pos ho];exact hR _
 rw[if_neg (by simpa using ho)]
 obtain ⟨S0,lU,_,bB,bh,b9,hb⟩:=h.opened he hs hk af ho
 rw[lU]
 unfold NS.opened
 have hb:=hb (rz (az f).ae)
 generalize S.tb.cx (az f).ae S0 (az f).ah draw=o at *
 obtain ⟨g1,g2⟩:=hb.en f o.2.1 (if o.2.2.1 then [({ S with tb:=o.1 }:NS).ev o.2.1 false] else [])
 have hlen:(if o.2.2.1=true then [({ S with tb:=o.1 }:NS).ev o.2.1 false] else []).length≤1:=by split<;>simp
 refine ⟨g1,⟨?_,?_,g2.act,g2.loose⟩⟩
 ·have h2:=g2.nx
  have h3:_≤S.b8 + 1 + 1:=h2
  omega
 ·have h2:=g2.uL
  have h3:_≤S.told + _:=h2
  omega
theorem Yau (x:NS × List Ev) (k:Int):∃ tb es,cr x k=({ x.1 with fl:=x.1.fl.filter fun r=>!(r.1 == k),tb:=tb },x.2++es)∧es.length≤1∧(NJ x.1→∀ e ∈ es,e.t=x.1.now∧Ul e.t e.s e.a e.b=true):=by
 obtain ⟨S,l⟩:=x
 unfold cr
 dsimp only
 cases hf:S.fl.find? (fun q=>q.1 == k) with
 | none =>
  have:(S.fl.filter fun r=>!(r.1 == k))=S.fl:=List.filter_eq_self.2 fun q hq=>by have:=List.find?_eq_none.1 hf q hq;simpa using this
  rw[this]
  exact ⟨S.tb,[],by simp,by simp,by simp⟩
 | some q =>
  dsimp only
  split
  ·exact ⟨S.tb,[],by simp,by simp,by simp⟩
  ·refine ⟨(S.tb.cls q.2.map).1,if (S.tb.cls q.2.map).2.1 then [({ S with fl:=S.fl.filter fun r=>!(r.1 == k) }:NS).ev q.2.map true] else [],?_,by split<;>simp,fun h e he=>?_⟩
   ·split<;>simp
   ·split at he
    ·obtain rfl:=List.mem_singleton.1 he
     exact ⟨rfl,Vs (S:={ S with fl:=S.fl.filter fun r=>!(r.1 == k) }) h.now h.gt (h.lS q (List.mem_of_find?_eq_some hf)) true⟩
    ·cases he
structure lV (S S':NS) (K:List Int) (es:List Ev):Prop where
 nj:NJ S'
 fl:S'.fl=S.fl.filter fun q=>!(K.contains q.1)
 now:S'.now=S.now
 nx:S'.b8=S.b8
 told:S'.told=S.told
 ref:S'.ref=S.ref
 aF:S'.aF=S.aF
 loose:S'.loose=S.loose
 len:es.length≤K.length
 ca:∀ e ∈ es,e.t=S.now∧Ul e.t e.s e.a e.b=true
theorem Vt {S:NS} (h:NJ S):∀ K:List Int,∃ es,(K.foldl cr (S,[])).2=es∧lV S (K.foldl cr (S,[])).1 K es:=by
 have key:∀ (K K0:List Int) (x:NS × List Ev),lV S x.1 K0 x.2→lV S (K.foldl cr x).1 (K0++K) (K.foldl cr x).2:=by
  intro K
  induction K with
  | nil=>intro K0 x hx;rw[List.append_nil];exact hx
  | cons k K ih =>
   intro K0 x hx
   have:=ih (K0++[k]) (cr x k) ?_
   ·rw[List.append_assoc]at this;exact this
   ·obtain ⟨tb,es,e,hl,hg⟩:=Yau x k
    have Vu:=hx.nj.cr k
    rw[e]at Vu ⊢
    refine ⟨Vu,?_,hx.now,hx.nx,hx.told,hx.ref,hx.aF,hx.loose,?_,?_⟩
    ·show x.1.fl.filter _=_
     rw[hx.fl,List.filter_filter]
     refine List.filter_congr fun q _=>?_
     rw[List.contains_eq_mem,List.contains_eq_mem]
     by_cases e1:q.1=k<;>by_cases e2:q.1 ∈ K0<;>simp[e1,e2]<;>simp[← e1,e2]
    ·have:=hx.len
     simp;omega
    ·intro e' lD
     rcases List.mem_append.1 lD with lD|lD
     ·exact hx.ca e' lD
     ·have:=hg hx.nj e' lD
      rw[hx.now]at this
      exact this
 intro K
 refine ⟨_,rfl,?_⟩
 have:=key K [] (S,[]) ⟨h,(List.filter_eq_self.2 fun q _=>rfl).symm,rfl,rfl,rfl,rfl,rfl,rfl,by simp,by simp⟩
 rw[List.nil_append]at this
 exact this
theorem HT {D:List Tm} {n:Nat} {k:Int}:k ∈ bf D n ↔ ∃ t ∈ D,t.due < n∧t.id=k:=by
 unfold bf
 rw[List.mem_map]
 constructor
 ·rintro ⟨t,ht,rfl⟩
  have:=(Wq _).mem_iff.1 ht
  rw[List.mem_filter]at this
  exact ⟨t,this.1,by simpa using this.2,rfl⟩
 ·rintro ⟨t,ht,hd,rfl⟩
  exact ⟨t,(Wq _).mem_iff.2 (List.mem_filter.2 ⟨ht,by simpa using hd⟩),rfl⟩
theorem Vv (D:List Tm) (n:Nat):(bf D n).length≤D.length:=by
 unfold bf
 rw[List.length_map,(Wq _).length_eq]
 exact List.length_filter_le _ _
def NS.later (S:NS) (d:Int):NS:={ S with now:=S.now + d.toNat,ref:=min 4 (S.ref + min d.toNat 4) }
theorem NI.later {S:NS} (h:NI S) {d:Int} (hd:¬ (d < 1∨549755813888 - S.now < d)):NJ (S.later d) :=
 ⟨h.gt,h.wf,h.ids,h.dM,h.len,h.lS,h.has,h.rA,by show S.now + d.toNat≤549755813888;omega,h.lT,by show min 4 _≤4;omega⟩
def NS.ended (S:NS) (d:Int):List Int:=bf S.a6 (S.now + d.toNat + 1)
theorem NI.rJ {S:NS} (h:NI S) {d:Int} (hd:¬ (d < 1∨549755813888 - S.now < d)):∃ es,((S.ended d).foldl cr (S.later d,[])).2=es∧lV (S.later d) ((S.ended d).foldl cr (S.later d,[])).1 (S.ended d) es∧NI ((S.ended d).foldl cr (S.later d,[])).1∧es.length≤48:=by
 obtain ⟨es,e,hE⟩:=Vt (h.later hd) (S.ended d)
 refine ⟨es,e,hE,⟨hE.nj,fun q hq=>?_⟩,?_⟩
 ·rw[hE.fl]at hq
  obtain ⟨mg,kv⟩:=List.mem_filter.1 hq
  have ra:=h.due q mg
  rw[hE.now]
  have hn:(S.later d).now=S.now + d.toNat:=rfl
  rw[hn]
  have NY:q.1 ∉ S.ended d:=fun hm=>by
   rw[List.contains_iff_mem.2 hm]at kv;cases kv
  have:¬ q.2.due.toNat < S.now + d.toNat + 1:=fun hlt=>NY (HT.2 ⟨⟨q.1,q.2.due.toNat⟩,List.mem_map.2 ⟨q,mg,rfl⟩,hlt,rfl⟩)
  omega
 ·refine Nat.le_trans hE.len (Nat.le_trans (Vv _ _) ?_)
  unfold NS.a6
  rw[List.length_map];exact h.len
theorem Bs (S:NS) (d:Int):S.tick d=if d < 1∨549755813888 - S.now < d then (bR 2,S) else (⟨0,[],false,pZ S.told ((S.ended d).foldl cr (S.later d,[])).2⟩,(((S.ended d).foldl cr (S.later d,[])).1.log ((S.ended d).foldl cr (S.later d,[])).2)):=rfl
theorem NI.tick {S:NS} (h:NI S) (d:Int):NI (S.tick d).2∧j1 S (S.tick d).2 0 48:=by
 rw[Bs]
 split
 ·exact ⟨h,j1.refl ..⟩
 ·rename_i hd
  obtain ⟨es,e,hE,hN,hl⟩:=h.rJ hd
  rw[e]
  refine ⟨hN.ko _,⟨?_,?_,hE.aF,hE.loose⟩⟩
  ·show NS.b8 (List.foldl cr (S.later d,[]) (S.ended d)).1≤_
   rw[hE.nx];show S.b8≤_;omega
  ·show NS.told (List.foldl cr (S.later d,[]) (S.ended d)).1 + es.length≤_
   rw[hE.told];show S.told + _≤_;omega
theorem NI.uN {S:NS} (h:NI S) (a:Int) (to:Bool):NI { S with tb:={ S.tb with aq:=(S.tb.aq.drain a to).1 } } :=
 ⟨⟨h.gt.drain a to,⟨aw.dT _ h.wf.aq a to,h.wf.home⟩,h.ids,h.dM,h.len,h.lS,h.has,h.rA,h.now,h.lT,h.ref⟩,h.due⟩
theorem NK.of {S S':NS} (h:NK S) (ha:S.aF < 300) (hn:NI S') (hc:j1 { S with aF:=S.aF + 1 } S' 2 64):NK S' :=
 ⟨hn,by have h1:=hc.nx;have h2:=hc.act;have h3:=h.nx;have h1:S'.b8≤S.b8 + 2:=h1;rw[h2];show S'.b8≤2 * ((S.aF + 1:Nat):Int);omega,
  by have h1:=hc.uL;have h2:=hc.act;have h3:=h.uL;have h1:S'.told≤S.told + 64:=h1;rw[h2];show S'.told≤64 * (S.aF + 1);omega,
  by rw[hc.act];exact ha⟩
theorem j1.up {S S':NS} {a b a' b':Nat} (h:j1 S S' a b) (h1:a≤a') (h2:b≤b'):j1 S S' a' b':=⟨by have:=h.nx;omega,by have:=h.uL;omega,h.act,h.loose⟩
theorem NK.step {S:NS} (h:NK S) (a:Ac):NK (S.step a).2:=by
 unfold NS.step
 split
 ·exact h
 rename_i ha
 have ha:S.aF < 300:=by omega
 have h1:=h.toNI.cP (S.aF + 1)
 dsimp only
 split
 ·exact h.of ha (h1.out a.frame a.draw).1 ((h1.out a.frame a.draw).2.up aR aR)
 split
 ·exact h.of ha (h1.aN a.frame).1 ((h1.aN a.frame).2.up aR aR)
 split
 ·exact h.of ha (h1.tick a.n).1 ((h1.tick a.n).2.up aR aR)
 split
 ·split
  ·exact h.of ha (h1.uN a.n _) ⟨by show S.b8≤S.b8 + (2:Nat);omega,by show S.told≤S.told + 64;omega,rfl,rfl⟩
  ·exact h.of ha h1 (j1.refl ..)
 ·exact h.of ha h1 (j1.refl ..)
theorem NK.new (b:Bool):NK (NS.new b):=by
 refine ⟨⟨⟨Yd1,Yco,by simp[NS.new],by simp[NS.new],by simp[NS.new],by simp[NS.new],by simp[NS.new],by simp[NS.new],by simp[NS.new],by simp[NS.new],by simp[NS.new]⟩,by simp[NS.new]⟩,by simp[NS.new],by simp[NS.new],by simp[NS.new]⟩
end Go.Proofs.YtogckmommodmhaaGreatDoor
