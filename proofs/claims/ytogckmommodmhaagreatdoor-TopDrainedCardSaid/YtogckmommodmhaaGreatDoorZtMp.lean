import Derived.Test.YtogckmommodmhaaGreatDoorZt10
import Derived.Test.YtogckmommodmhaaGreatDoorZt5
import Derived.Test.YtogckmommodmhaaGreatDoorZt1
import Derived.Test.YtogckmommodmhaaGreatDoorZt16
import Derived.Test.YtogckmommodmhaaGreatDoorZtMa
import Derived.Test.YtogckmommodmhaaGreatDoorZtMe
import Derived.Test.YtogckmommodmhaaGreatDoorZtMf
import Derived.Test.YtogckmommodmhaaGreatDoorZtMh
set_option maxHeartbeats 16000000
namespace Go.Proofs.YtogckmommodmhaaGreatDoor
open Go.RowKit
set_option linter.all false
set_option linter.unusedSimpArgs false
set_option maxRecDepth 100000
def aw.emp (p:aw) (a:Int):Bool:=Jq a && p.iy a.toNat && p.left a == 6
theorem Yea (p:aw) (hp:p.wf) (a k:Nat) (o:Int) (ha:a < 3) (hk:k < 6):(p.put a k o).ow a k=o:=by
 unfold aw.ow aw.put
 have:a * 6 + k < p.own.length:=by rw[hp.own];omega
 simp[this]
theorem Xqf (p:aw) (a k b j:Nat) (o:Int) (h:b * 6 + j≠a * 6 + k):(p.put a k o).ow b j=p.ow b j:=by
 unfold aw.ow aw.put
 simp[List.getD_eq_getElem?_getD,List.getElem?_set_ne (Ne.symm h)]
inductive kq (p:aw) (a:Int):aw × Int→Prop
 | no (e:Int) (he:e≠0):kq p a (p,e)
 | yes (b:Nat) (ha:a=b) (hb:b < 3) (hd:p.iy b=false):kq p a (p.mM b true,0)
theorem Ygi (p:aw) (a:Int):kq p a (p.drain a true):=by
 unfold aw.drain
 split
 ·rename_i h
  obtain ⟨b,rfl,hb⟩:=vB a h
  rw[show ((b:Int)).toNat=b by omega]
  split
  ·exact .no 8 aR
  ·rename_i hd
   exact .yes b rfl hb (by simpa using hd)
 ·exact .no 7 aR
def Iz (p q:aw):Prop:=∀ x k,x < 3→k < 6→p.iy x=true→q.ow x k=0∨q.ow x k=p.ow x k
structure PD (p q:aw):Prop where
 dr:q.dr=p.dr
 ow:Iz p q
theorem PD.rfl {p:aw}:PD p p:=⟨Eq.refl _,fun _ _ _ _ _=>.inr (Eq.refl _)⟩
theorem PD.trans {p q r:aw} (h:PD p q) (g:PD q r):PD p r :=
 ⟨g.dr.trans h.dr,fun x k hx hk hd=>by
  have HA:q.iy x=true:=by unfold aw.iy at hd ⊢;rw[h.dr];exact hd
  rcases g.ow x k hx hk HA with e|e
  ·exact .inl e
  ·rw[e];exact h.ow x k hx hk hd⟩
theorem PD.put {p:aw} (hp:p.wf) {a k:Nat} {o:Int} (ha:a < 3) (hk:k < 6) (h:p.iy a=false∨o=0):PD p (p.put a k o):=by
 refine ⟨Eq.refl _,fun x j hx hj hd=>?_⟩
 by_cases e:x=a∧j=k
 ·obtain ⟨rfl,rfl⟩:=e
  rcases h with h|h
  ·rw[h]at hd;exact absurd hd aR
  ·left;rw[Yea p hp x j o ha hk,h]
 ·right;exact Xqf p a k x j o af
theorem PD.take {p:aw} (hp:p.wf) (s a d:Int):PD p (p.take s a d).1:=by
 unfold aw.take
 split
 ·split
  ·rename_i h
   obtain ⟨n,hn,sY⟩:=vB a h.1
   subst hn
   simp only[Int.toNat_natCast]
   split
   ·exact .rfl
   split
   ·exact .rfl
   ·rename_i h1 h2
    exact .put hp sY (Sy p hp n d sY h2).1 (.inl (by simpa using h1))
  ·exact .rfl
 ·exact .rfl
theorem PD.bW {p:aw} (hp:p.wf) (s a b:Int):PD p (p.bW s a b).1:=by
 unfold aw.bW
 split
 ·split
  ·rename_i h
   obtain ⟨n,hn,sY⟩:=vB a h.1
   subst hn
   exact .put hp sY af (.inr (Eq.refl _))
  ·exact .rfl
 ·exact .rfl
theorem PD.tk {t:Tb} (ht:t.aq.wf) (pr s i a d:Int):PD t.aq (t.tk pr s i a d).1.aq:=by
 unfold Tb.tk
 split
 ·exact .rfl
 ·exact .take ht ..
theorem PD.cx {t:Tb} (ht:t.aq.wf) (pr s i d:Int):PD t.aq (t.cx pr s i d).1.aq:=by
 unfold Tb.cx
 split
 ·exact .rfl
 split
 ·exact .rfl
 split
 ·exact .rfl
 split
 ·exact .rfl
 split
 ·exact .rfl
 split
 ·exact .tk ht ..
 split
 ·exact .rfl
 ·exact .tk ht ..
theorem PD.cls {t:Tb} (ht:t.aq.wf) (m:Mp):PD t.aq (t.cls m).1.aq:=by
 unfold Tb.cls
 split
 ·exact .rfl
 split
 ·exact .rfl
 ·rename_i i _
  split
  ·exact .rfl
  ·unfold Tb.bW
   split<;>exact PD.bW (p:=(t.del i).aq) ht ..
theorem YA (S:NS) (f:List UInt8):(S.aN f).2.tb=S.tb:=by
 rcases Bz S f with ⟨_,_,_,h⟩|⟨_,h⟩
 ·rw[h]
 ·exact h.tb
theorem YB (S:NS) (f:List UInt8) (m:Mp) (es:List Ev):(S.en f m es).2.tb=S.tb:=by
 rw[wm]
 split
 ·exact YA ..
 ·rfl
theorem YC (S:NS) (f:List UInt8) (e:Int):(S.refuse f e).2.tb=S.tb:=by
 unfold NS.refuse
 split<;>rfl
theorem PD.out {S:NS} (hS:S.tb.aq.wf) (f:List UInt8) (d:Int):PD S.tb.aq (S.out f d).2.tb.aq:=by
 rw[Br]
 split
 ·exact .rfl
 split
 ·exact .rfl
 split
 ·exact .rfl
 split
 ·exact .rfl
 split
 ·split
  ·rw[YB];exact .rfl
  ·exact .rfl
 split
 ·exact .rfl
 split
 ·rw[YC];exact .rfl
 split
 ·rw[YC];exact .rfl
 ·unfold NS.opened;rw[YB];exact .cx hS ..
theorem PD.cr {x:NS × List Ev} (hx:x.1.tb.aq.wf) (k:Int):PD x.1.tb.aq (cr x k).1.tb.aq:=by
 unfold Go.Proofs.YtogckmommodmhaaGreatDoor.cr
 split
 ·exact .rfl
 dsimp only
 split
 ·exact .rfl
 ·exact .cls (t:=x.1.tb) hx _
theorem PD.tick {S:NS} (hS:NI S) (d:Int):PD S.tb.aq (S.tick d).2.tb.aq:=by
 rw[Bs]
 split
 ·exact .rfl
 ·rename_i hd
  show PD S.tb.aq ((S.ended d).foldl Go.Proofs.YtogckmommodmhaaGreatDoor.cr (S.later d,[])).1.tb.aq
  have key:∀ i,i≤(S.ended d).length→PD S.tb.aq (S.lW d i).1.tb.aq:=by
   intro i
   induction i with
   | zero=>intro _;exact .rfl
   | succ i ih =>
    intro h
    rw[VM S d i h]
    exact (ih af).trans (.cr (Od hS hd i).nj.wf.aq _)
  have:=key _ (Nat.le_refl _)
  unfold NS.lW at this
  rwa [List.take_length]at this
theorem Xv7 (p:aw) (a:Int) (to:Bool) (x k:Nat):(p.drain a to).1.ow x k=p.ow x k:=by
 unfold aw.drain
 split
 ·split<;>rfl
 ·rfl
theorem Xuo {S:NS} (hS:NK S) (a:Ac):Iz S.tb.aq (S.step a).2.tb.aq:=by
 have h1:=hS.toNI.cP (S.aF + 1)
 unfold NS.step
 split
 ·exact PD.rfl.ow
 dsimp only
 split
 ·exact (PD.out (S:={ S with aF:=S.aF + 1 }) h1.wf.aq ..).ow
 split
 ·rw[YA];exact PD.rfl.ow
 split
 ·exact (PD.tick (S:={ S with aF:=S.aF + 1 }) h1 ..).ow
 split
 ·dsimp only
  split
  ·exact fun x k _ _ _=>.inr (Xv7 ..)
  ·exact PD.rfl.ow
 ·exact PD.rfl.ow
theorem Xth (b:Bool) (l:List Ac) (i:Nat):Iz (Xq b l i).tb.aq (Xq b l (i + 1)).tb.aq:=Xuo (We b l i) _
theorem YD (p:aw) {a:Nat} (ha:a < 3):p.emp a=(p.iy a && p.left a == 6):=by
 unfold aw.emp
 rw[show Jq (a:Int)=true by unfold Jq;simp;omega,Int.toNat_natCast,Bool.true_and]
theorem Xkc (gl:Nat→AV) (p:aw) (hp:p.wf) (a:Nat) (ha:a < 3):PS Tryz.prog gl 48 [.agg p.enc,.int .i64 a] (.bool (p.emp a)):=by
 have iu:FT Tryz.prog 48 Tryz.f48 (aO Tryz.prog Tryz.f48) [.t 4]:=.of Tryz.func48
 refine iu.ps (of_decide_eq_true rfl) (by simp[Qe]) fun c hN hg=>?_
 conv in aO _ _=>cbv
 have e2:=aw.aC hp
 have hA:=Dz c.gl a
 have hL:=GX c.gl p hp a
 have hd:=aw.gL hp ha
 have ht:p.enc.take 21=p.enc:=List.take_of_length_le (by rw[e2];decide)
 rw[show Jq (a:Int)=true by unfold Jq;simp;omega]at hA
 rw[YD p ha]
 generalize p.iy a=d at *
 generalize p.left (a:Int)=n at *
 have hq:((n:Int) == 6)=(n == 6):=by rw[Bool.eq_iff_iff];simp;omega
 refine Qh @e2 ?_
 refine Qy hA (An @e2 (An @hd @ht)) ?_
 exact xq hL (An @e2 (An @hd (An @ht @hq)))
theorem Xqs {b n j:Nat} {x y:Bk} {h:List (Nat × Bk)}:Qc ((b,x)::h) n j=Qc ((b,x)::(b,y)::h) n j:=by
 by_cases e:b=j
 ·subst e;rw[Qd,if_pos rfl,Qd,if_pos rfl]
 ·rw[Qd,if_neg e,Qd,if_neg e,Qd,if_neg e]
theorem Yb6 (gl:Nat→AV) (S:NS) (T:WT) (w:aw) (hw:w.wf) (hS:NJ S) (hT:T.wf) (a:Ac) (r:Rp) (h:Iz w S.tb.aq):GD Tryz.prog gl 47 [.ptr 67 0,.agg a.enc,.agg r.enc,.ptr 70 0] ([(70,.cells w.enc)]++Qm S T) 71 (List.range 71) (.bool true) ([(70,.cells S.tb.aq.enc)]++Qm S T):=by
 have iu:FT Tryz.prog 47 Tryz.f47 (aO Tryz.prog Tryz.f47) [.t 7]:=.of Tryz.func47
 have hwn:=fun n=>aw.bw w n
 have hpn:=fun n=>aw.bw S.tb.aq n
 have H1:∀ {p:aw},HL ([(70,.cells p.enc)]++Qm S T) 71:=fun {p}=>(Qj hT).more (of_eq_true (aw.bw p 71))
 refine iu.gq (of_decide_eq_true rfl) (fun q hq=>Xf ((H1 (p:=w)).mem q hq).2) (fun b hb=>List.mem_range.1 hb) fun c aY hg=>?_
 subst hg
 conv in aO _ _=>cbv
 have aH:=fun n b hb=>Ya (S:=S) hT n b hb
 obtain ⟨a1,a2,a3,a4⟩:=a
 obtain ⟨r1,r2,r3,r4⟩:=r
 unfold Ac.enc Rp.enc
 have hp:=hS.wf.aq
 have e1:=aw.aC hw
 have e2:=aw.aC hp
 have e3:=Tb.aC hS.wf
 have wo:w.enc.take 21=w.enc:=List.take_of_length_le (by rw[e1];decide)
 have BG:S.tb.aq.enc.take 21=S.tb.aq.enc:=List.take_of_length_le (by rw[e2];decide)
 have ht3:=Tb.dU hS.wf
 have Bo:=OS c.gl S T hS hT
 have yU:=fun n=>Tb.bw (t:=S.tb) n
 refine Qh (An @aH @e1) ?_
 refine oT (v:=false) (ex:=[(72,_),(71,_),(70,_)]) Bo (Qj hT) (Qj hT) (by simpa [Qe] using yU 70) aR au rfl ?_ ?_
 ·exact Qr @Xw
 refine Qh (An @aH (An @e2 (An @e3 @ht3))) ?_
 have hz:=fun x k h1 h2 h3=>h x k h1 h2 h3
 refine Yi (fun a:Nat=>a≤3) (fun a=>⟨[(3,.ptr 70 0),(8,.ptr 143 0),(15,.int .i64 a)],[(143,.cells S.tb.aq.enc),(72,.cells [.int .i64 r1,.str r2,.bool r3,.str r4]),(71,.cells [.int .i64 a1,.int .i64 a2,.int .i64 a3,.str a4]),(70,.cells w.enc)]++Qm S T,144⟩) (fun a=>3 - a) iu.mixed (List.range 71) aY
  ⟨0,Nat.zero_le _,To.c6 (by exact Qs) fun b=>Xqs⟩ fun a ha=>?_
 refine Qf ?_
 (refine Qa (fun h2=>?_) (fun h2=>?_)<;>try exact h2.elim)
 ·have jS:a < 3:=by omega
  have hr:=GU S.tb.aq hp a jS
  have ft:=Kn S.tb.aq hp a jS
  refine Qh (An @aH (An @e2 @hr)) ?_
  refine Yi (fun k:Nat=>k≤6) (fun k=>⟨[(3,.ptr 70 0),(8,.ptr 143 0),(9,.int .i64 a),(15,.int .i64 a),(21,.agg (Qp (S.tb.aq.row a))),(22,.int .i64 k)],[(143,.cells S.tb.aq.enc),(72,.cells [.int .i64 r1,.str r2,.bool r3,.str r4]),(71,.cells [.int .i64 a1,.int .i64 a2,.int .i64 a3,.str a4]),(70,.cells w.enc)]++Qm S T,144⟩) (fun k=>6 - k) iu.mixed (List.range 71) aY
   ⟨0,Nat.zero_le _,To.c6 (by exact Qs) fun b=>rfl⟩ fun k hk=>?_
  refine Qf ?_
  (refine Qa (fun h3=>?_) (fun h3=>?_)<;>try exact h3.elim)
  ·have l8:k < 6:=by omega
   have hv:=AS S.tb.aq a k l8
   have hd:=aw.gL hw jS
   have ho:=LX w hw a k jS l8
   have hn:=h a k jS l8
   clear hz
   generalize S.tb.aq.ow a k=x at *
   generalize w.ow a k=y at *
   generalize w.iy a=d at *
   refine Qh (An @aH (An @ft (An @hv (An @hd @ho)))) ?_
   (refine Qa (fun h4=>?_) (fun h4=>?_)<;>try exact h4.elim)
   ·obtain ⟨h4,h5⟩:=h4
    exact absurd (hn (by simpa using h4.1)) (by simp_all)
   ·refine Qf ?_
    refine ⟨k + 1,by omega,To.c6 (by exact Qs) fun b=>rfl,by omega⟩
  ·obtain rfl:k=6:=by omega
   have hE:=Xkc c.gl S.tb.aq hp a jS
   have hL:=GX c.gl S.tb.aq hp a
   have hd:=aw.gL hp jS
   rw[YD S.tb.aq jS]at hE
   generalize S.tb.aq.iy a=d at *
   generalize S.tb.aq.left (a:Int)=n at *
   have hq:((n:Int) == 6)=(n == 6):=by rw[Bool.eq_iff_iff];simp;omega
   refine Qh (An @aH (An @e2 (An @hd @BG))) ?_
   refine Qy hE (An @aH (An @e2 (An @hd (An @BG @hq)))) ?_
   refine Qy hL (An @aH (An @e2 (An @hd (An @BG @hq)))) ?_
   (refine Qa (fun h5=>?_) (fun h5=>?_)<;>try exact h5.elim)
   refine Qf ?_
   refine ⟨a + 1,by omega,To.c6 (by exact Qs) fun b=>rfl,by omega⟩
 ·obtain rfl:a=3:=by omega
  refine Qh (An @aH (An @e1 (An @e2 @BG))) ?_
  refine ⟨(),To.eC (p:=List.range 71) (ex0:=[(70,_),(143,_),(72,_),(71,_),(70,_)]) H1 hT (fun b hb=>List.mem_range.1 hb) au au (fun b h1 h2=>?_) (by simp[Qu,Qe,ai,look,aD,ay])⟩
  obtain rfl:b=70:=by omega
  rfl
theorem Qss (gl:Nat→AV) (h0:gl 0=.xp (Qp Xi) 0) (b:Bool) (l:List Ac) (hl:mh l) (hlen:l.length≤140737488351232):PS Tryz.prog gl 14 [.bool b,.isl l.length (cT l)] (.bool true):=by
 have hB:∀ i,Bx [(0,.cells (Xq b l i).tb.aq.enc)] 1:=fun i=>Bx.one (of_eq_true (aw.bw _ 0))
 obtain ⟨T,hT,eQ⟩:=XA gl h0 b l hl hlen 47 [.ptr 70 0] (fun i=>[(0,.cells (Xq b l i).tb.aq.enc)]) hB (by simp[ai,Qe]) (by show ai 1 [.ptr 0 0];simp[ai,Qe]) fun i hi T hT =>
  Yb6 gl _ T _ (We b l i).wf.aq (We b l (i + 1)).toNI.toNJ hT _ _ (Xth b l i)
 rw[show ay (sw 1) [.ptr 70 0]=[.ptr 0 0] from rfl]at eQ
 have H1:=(hB (Yb l)).hk (S:=Xq b l (Yb l)) hT
 have iu:FT Tryz.prog 14 Tryz.f14 (aO Tryz.prog Tryz.f14) [.t 4]:=.of Tryz.func14
 refine iu.ps (of_decide_eq_true rfl) (by simp[Qe]) fun c hN hg=>?_
 subst hg
 conv in aO _ _=>cbv
 have fH:=fun n=>Wl n l
 refine Qf ?_
 refine nn (p:=[]) (s':=⟨[(9,.bool b),(10,.isl l.length (cT l)),(11,.cl 47 [.ptr 0 0])],[(0,.cells (Xq b l 0).tb.aq.enc)],1⟩) (by rw[hN];simp) (To.c6 (by exact Qs) fun j=>?_) ?_
 ·by_cases h:j=0
  ·subst h;rfl
  ·(repeat rw[Qd,if_neg af])
 refine OT eQ (hB 0).toHL H1 aR (by simp[Qe,ai]) ?_ ?_
 ·exact Qr @fH
 exact Qs
end Go.Proofs.YtogckmommodmhaaGreatDoor
