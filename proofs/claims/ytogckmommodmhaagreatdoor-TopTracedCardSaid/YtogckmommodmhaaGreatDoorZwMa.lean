import Derived.Test.YtogckmommodmhaaGreatDoorZw5
import Derived.Test.YtogckmommodmhaaGreatDoorZw1
import Derived.Test.YtogckmommodmhaaGreatDoorZw14
import Derived.Test.YtogckmommodmhaaGreatDoorZw16
import Derived.Test.YtogckmommodmhaaGreatDoorZw8
import Derived.Test.YtogckmommodmhaaGreatDoorZw6
import Derived.Test.YtogckmommodmhaaGreatDoorZw9
import Derived.Test.YtogckmommodmhaaGreatDoorZw17
import Derived.Test.YtogckmommodmhaaGreatDoorZw18
import Derived.Test.YtogckmommodmhaaGreatDoorChecked
import Derived.KernelRfl
import Derived.WalkKit
import Derived.WalkSpells
import Derived.WalkLawsBesides
import Derived.BigQuiet
import Derived.Lib.Hide
namespace Go.Proofs.YtogckmommodmhaaGreatDoor
open Go.RowKit
set_option linter.all false
set_option linter.unusedSimpArgs false
set_option maxRecDepth 100000
theorem WW:FT Tryz.prog 55 Tryz.f55 (aQ Tryz.prog Tryz.f55) [.cell 2 (.ag 21),.t 3]:=.of Tryz.func55
theorem Oo:FT Tryz.prog 54 Tryz.f54 (aQ Tryz.prog Tryz.f54) [.t 2,.t 3]:=.of Tryz.func54
theorem Oq:FT Tryz.prog 82 Tryz.f82 (aQ Tryz.prog Tryz.f82) [.t 4]:=.of Tryz.func82
theorem Xt3:FT Tryz.prog 84 Tryz.f84 (aQ Tryz.prog Tryz.f84) [.cell 2 (.ag 5),.t 3]:=.of Tryz.func84
theorem Yau (l:List UInt8):∀ v,iK v l=v * 256 ^ l.length + iK 0 l:=by
 induction l with
 | nil=>intro v;simp[iK]
 | cons c l ih =>
  intro v
  simp only[iK]
  rw[ih,ih (256 * 0 + c.toNat),List.length_cons,Nat.pow_succ,Nat.add_mul,Nat.mul_zero,Nat.zero_add,Nat.mul_comm 256 v,Nat.mul_assoc,Nat.mul_comm 256]
  omega
theorem WX (v:Nat):∀ n,n≤8→iK 0 (be v n)=v % 256 ^ n
 | 0,_=>by simp[be,iK,Nat.mod_one]
 | n + 1,h=>by
  simp only[be,iK]
  rw[Yau,Qp,WX v n ae,Pb v n ae,Nat.mul_zero,Nat.zero_add]
  have:=Nat.mod_mul (x:=v) (a:=256 ^ n) (b:=256)
  rw[← Nat.pow_succ]at this
  rw[this,Nat.mul_comm (256 ^ n)]
  omega
theorem Xlr (v c:Int):IntKind.i64.wrap (256 * IntKind.i64.wrap v + c)=IntKind.i64.wrap (256 * v + c):=by
 rw[IntKind.wrap_i64,IntKind.wrap_i64,IntKind.wrap_i64];omega
theorem Xwe (l:List UInt8):∀ v:Nat,sY (IntKind.i64.wrap v) l=IntKind.i64.wrap (iK v l):=by
 induction l with
 | nil=>intro v;rfl
 | cons c l ih =>
  intro v
  show sY (IntKind.i64.wrap (256 * IntKind.i64.wrap v + c.toNat)) l=_
  rw[Xlr]
  have e:(256 * (v:Int) + (c.toNat:Int))=((256 * v + c.toNat:Nat):Int):=by omega
  rw[e];exact ih _
theorem Xul (l:List UInt8):cp l=IntKind.i64.wrap (iK 0 l):=by
 have h0:IntKind.i64.wrap ((0:Nat):Int)=0:=by rw[IntKind.wrap_i64];decide
 rw[← Xwe,h0];rfl
theorem Ut (v:Int) (n:Nat) (h:n≤8) (h0:0≤v) (h1:v < 256 ^ n) (h2:v < 9223372036854775808):cp (be v n)=v:=by
 obtain ⟨m,rfl⟩:=Int.eq_ofNat_of_zero_le h0
 have pB:m < 256 ^ n:=by
  have e:((256:Int) ^ n)=((256 ^ n:Nat):Int):=by rw[Int.natCast_pow];rfl
  rw[e]at h1;omega
 rw[Xul,WX m n h,Nat.mod_eq_of_lt pB,IntKind.wrap_i64]
 omega
theorem Yc2 (l:List UInt8) (h:l.length=1):0≤cp l∧cp l < 256:=Iw l 1 h (by decide)
theorem HZ (seq time set:Int) (bs:List UInt8):(Yi seq time set bs).length=20 + bs.length:=by simp[Yi,Qp];omega
structure Ot where
 k:Nat
 o:List Int
def pz:List AV:=[.bool false,.bool false,.bool false]
def Ou (x:List Int × Int):AV:=.aU [.agg (Qo x.1++pz),.int .i64 x.2]
theorem Xov (gl:Nat→AV) (l:List Ev) (iy:l.length≤4611686018427387904):PS Tryz.prog gl 55 [.isl l.length (Yh l)] (Ou (Uq (List.replicate 18 0) l)):=by
 refine WW.ps (of_decide_eq_true rfl) (by simp[Qf,ah,Ou,pz,zN,vo]) fun c hN hg=>?_
 conv in aQ _ _=>cbv
 have hl:=wq l
 refine Qh @hl ?_
 refine Xd (fun x:Ot=>x.k≤l.length∧x.o.length=18∧Uq x.o (l.drop x.k)=Uq (List.replicate 18 0) l) (fun x=>⟨[(2,.ptr 0 0),(3,.int .i64 0),(4,.ptr 1 0),(9,.isl l.length (Yh l)),(10,.int .i64 l.length),(11,.int .i64 x.k)],[(0,.cells (Qo (List.replicate 18 0)++pz)),(1,.cells (Qo x.o++pz))],2⟩) (fun x=>l.length - x.k) WW.mixed hN
  ⟨⟨0,List.replicate 18 0⟩,⟨by simp,by simp,rfl⟩,[],by (have aJ:=eq_true (Ul 2 l);have bm:=@pz.eq_1;refine XG ?_;clear aJ bm;((try (repeat' with_reducible refine And.intro ?_ ?_));(try any_goals (first|refine zm ?_|exact CL|fail))))<;>rfl⟩ fun ⟨k,o⟩ ⟨hk,ho,he⟩=>?_
 dsimp only at hk ho he
 refine Qe ?_
 (refine Qa (fun h1=>?_) (fun h1=>?_)<;>try exact h1.elim)
 ·have bw:k < l.length:=by omega
  have a7:=Ny l k bw
  have hd:l.drop k=l[k]::l.drop (k + 1):=(List.drop_eq_getElem_cons bw)
  rw[hd]at he
  generalize l[k]=e at *
  obtain ⟨t,sb,a,b,f⟩:=e
  simp only[Ev.enc]at a7
  simp only[Uq,uN]at he
  refine Qh (An @hl @a7) ?_
  ((first|apply Ym|apply Ya|apply Xn|apply Xj)<;>(first|exact (KE _ _ _ _ _ _)|(have aJ:=@a7;refine XG ?_;clear aJ;first|exact rfl|exact True.intro|((try (repeat' with_reducible refine And.intro ?_ ?_));(try any_goals (first|refine zm ?_|exact CL|fail))))))
  by_cases bc:Zk t sb a b=true
  ·have yH:qu t sb a b=0:=if_pos bc
   have hb:=bc
   simp[Zk]at hb
   obtain ⟨⟨⟨⟨⟨⟨⟨t0,t1⟩,s0⟩,s1⟩,a0⟩,a1⟩,b0⟩,b1⟩:=hb
   rw[if_neg (by rw[bc];simp)]at he
   rw[yH]
   (refine Qa (fun h2=>?_) (fun h2=>?_)<;>try exact h2.elim)
   have ei:(a * 6 + b).toNat=a.toNat * 6 + b.toNat:=by omega
   rw[ei]at he
   have hi:a.toNat * 6 + b.toNat < o.length:=by omega
   generalize jS:a.toNat * 6 + b.toNat=ix at *
   cases f with
   | false =>
    refine Qh (An @pz.eq_1 @jS) ?_
    (refine Qa (fun h3=>?_) (fun h3=>?_)<;>try exact h3.elim)
    ·refine Qh (An @pz.eq_1 @List.map_append.{0,0}) ?_
     rw[if_pos ⟨rfl,h3⟩]at he
     rw[← he];rfl
    ·rw[if_neg (by simp_all),if_neg au]at he
     refine Qh (An @pz.eq_1 @jS) ?_
     (refine Qa (fun h4=>?_) (fun h4=>?_)<;>try exact h4.elim)
     refine Qh (An @pz.eq_1 @jS) ?_
     (refine Qa (fun h5=>?_) (fun h5=>?_)<;>try exact h5.elim)
     refine Qh (An @pz.eq_1 @jS) ?_
     refine ⟨⟨k + 1,o.set ix (sb + 1)⟩,⟨by dsimp only;omega,by simp[ho],?_⟩,⟨[],?_⟩,by dsimp only;omega⟩
     ·simpa using he
     ·exact Qq (An @pz.eq_1 (An @jS (eq_true (Ul 2 l))))
   | true =>
    refine Qh (An @pz.eq_1 @jS) ?_
    (refine Qa (fun h3=>?_) (fun h3=>?_)<;>try exact h3.elim)
    refine Qh (An @pz.eq_1 @jS) ?_
    (refine Qa (fun h4=>?_) (fun h4=>?_)<;>try exact h4.elim)
    ·refine Qh (An @pz.eq_1 @List.map_append.{0,0}) ?_
     rw[if_neg au,if_pos ⟨rfl,h4⟩]at he
     rw[← he];rfl
    ·rw[if_neg au,if_neg (by simp_all)]at he
     refine Qh (An @pz.eq_1 @jS) ?_
     (refine Qa (fun h5=>?_) (fun h5=>?_)<;>try exact h5.elim)
     refine Qh (An @pz.eq_1 @jS) ?_
     refine ⟨⟨k + 1,o.set ix 0⟩,⟨by dsimp only;omega,by simp[ho],?_⟩,⟨[],?_⟩,by dsimp only;omega⟩
     ·simpa using he
     ·exact Qq (An @pz.eq_1 (An @jS (An @List.set_set.{0} (eq_true (Ul 2 l)))))
  ·have yH:qu t sb a b=2:=if_neg bc
   rw[if_pos (by simpa using bc)]at he
   rw[yH]
   (refine Qa (fun h2=>?_) (fun h2=>?_)<;>try exact h2.elim)
   refine Qh (An @pz.eq_1 @List.map_append.{0,0}) ?_
   rw[← he];rfl
 ·have:k=l.length:=by omega
  subst this
  rw[List.drop_length]at he
  refine Qh (An @pz.eq_1 @List.map_append.{0,0}) ?_
  rw[← he];rfl
theorem Ov:∀ (o:List Int),(Qo o).map Yy=(List.replicate o.length (SK.int .i64)).map some
 | []=>rfl
 | _::o=>by
  have:=Ov o
  simp only[Qo,List.map_cons,List.length_cons,List.replicate_succ]at this ⊢
  rw[this];rfl
def u4 (x:List UInt8):Ev:=⟨cp (x.take 8),cp ((x.drop 8).take 4) - 167772161,cp ((x.drop 12).take 4) - 3405803777,(cp ((x.drop 16).take 2) - 1024).tdiv 8,cp ((x.drop 20).take 1) == 2⟩
def EE (x:List UInt8):Prop :=
 1≤cp ((x.drop 20).take 1)∧cp ((x.drop 20).take 1)≤2∧0≤cp ((x.drop 16).take 2) - 1024∧(cp ((x.drop 16).take 2) - 1024).tmod 8=0∧cp ((x.drop 18).take 2)=cp ((x.drop 16).take 2) + 7 ∧
  Zk (u4 x).t (u4 x).s (u4 x).a (u4 x).b=true
open Classical in
noncomputable def u5 (x:List UInt8):Option Ev:=if EE x then some (u4 x) else none
def Ev.bQ (e:Ev):Prop:=0≤e.t∧e.t≤1099511627776∧0≤e.s∧e.s < 8∧0≤e.a∧e.a < 3∧0≤e.b∧e.b < 6
theorem Ow (e:Ev):Zk e.t e.s e.a e.b=true ↔ e.bQ:=by
 simp[Zk,Ev.bQ];constructor
 ·rintro ⟨⟨⟨⟨⟨⟨⟨a,b⟩,c⟩,d⟩,e⟩,f⟩,g⟩,h⟩;exact ⟨a,b,c,d,e,f,g,h⟩
 ·rintro ⟨a,b,c,d,e,f,g,h⟩;exact ⟨⟨⟨⟨⟨⟨⟨a,b⟩,c⟩,d⟩,e⟩,f⟩,g⟩,h⟩
theorem Xoq (e:Ev) (y:List UInt8):(lG e++y).take 8=be e.t 8∧((lG e++y).drop 8).take 4=be (167772161 + e.s) 4∧((lG e++y).drop 12).take 4=be (3405803777 + e.a) 4∧((lG e++y).drop 16).take 2=be (1024 + 8 * e.b) 2 ∧
  ((lG e++y).drop 18).take 2=be (1031 + 8 * e.b) 2∧((lG e++y).drop 20).take 1=be (if e.f then 2 else 1) 1:=by
 refine ⟨?_,?_,?_,?_,?_,?_⟩<;>simp[lG,Qp,List.take_append,List.drop_append,List.take_of_length_le,List.drop_eq_nil_of_le]
theorem Ycj (e:Ev) (h:e.bQ) (y:List UInt8):u5 (lG e++y)=some e:=by
 obtain ⟨p1,p2,p3,p4,p5,p6⟩:=Xoq e y
 obtain ⟨t0,t1,s0,s1,a0,a1,b0,b1⟩:=id h
 have n1:=Ut e.t 8 aI t0 ae ae
 have n2:=Ut (167772161 + e.s) 4 aI ae ae ae
 have n3:=Ut (3405803777 + e.a) 4 aI ae ae ae
 have n4:=Ut (1024 + 8 * e.b) 2 aI ae ae ae
 have n5:=Ut (1031 + 8 * e.b) 2 aI ae ae ae
 have n6:=Ut (if e.f then 2 else 1) 1 (by decide) (by split<;>omega) (by split<;>omega) (by split<;>omega)
 have e0:u4 (lG e++y)=e:=by
  unfold u4
  rw[p1,p2,p3,p4,p6,n1,n2,n3,n4,n6]
  obtain ⟨t,s,a,b,f⟩:=e
  have q1:167772161 + s - 167772161=s:=by omega
  have q2:3405803777 + a - 3405803777=a:=by omega
  have q3:(1024 + 8 * b - 1024).tdiv 8=b:=by
   have:1024 + 8 * b - 1024=8 * b:=by omega
   rw[this,Int.tdiv_eq_ediv_of_nonneg (by simp only at b0;omega)];omega
  dsimp only
  rw[q1,q2,q3]
  cases f<;>rfl
 unfold u5
 rw[e0,if_pos]
 unfold EE
 rw[e0,p4,p5,p6,n4,n5,n6]
 refine ⟨by split<;>omega,by split<;>omega,by omega,?_,by omega,(Ow e).2 h⟩
 have:1024 + 8 * e.b - 1024=8 * e.b:=by omega
 rw[this,Int.tmod_eq_emod_of_nonneg ae];omega
theorem WY (gl:Nat→AV) (l:List UInt8) (bad:Bool) (n:Nat) (hn:n≤l.length) (h8:n≤1000) :
  GS Tryz.prog gl 82 [.ptr 0 0,.int .i64 n] [(0,.cells [.str l,.bool bad])] 1 (.int .i64 (cp (l.take n))) [(0,.cells [.str (l.drop n),.bool bad])] 1:=by
 refine Oq.gs (of_decide_eq_true rfl) (by simp[Bk.live]) fun c aY hg=>?_
 conv in aQ _ _=>cbv
 refine Qe ?_
 (refine Qa (fun h1=>?_) (fun h1=>?_)<;>try exact h1.elim)
 ·omega
 refine Qe ?_
 refine Ja ?_
 refine Ui (fun k:Nat=>k≤n) (fun k=>⟨[(0,.ptr 0 0),(1,.int .i64 n),(5,.int .i64 (cp ((l.take n).take k))),(27,.sl 1 1 0 n n),(28,.int .i64 n),(29,.int .i64 k)],[(0,.cells [.str l,.bool bad]),(1,.cells (Xg (l.take n)))],2⟩) (fun k=>n - k) Oq.mixed 1 aY
  ⟨0,by omega,[],by (refine XG ?_;((try (repeat' with_reducible refine And.intro ?_ ?_));(try any_goals (first|refine zm ?_|exact CL|fail))))<;>rfl⟩ fun k hk=>?_
 refine Qe ?_
 (refine Qa (fun h2=>?_) (fun h2=>?_)<;>try exact h2.elim)
 ·have hlen:(l.take n).length=n:=by rw[List.length_take];omega
  have hs:=Pa (l.take n) k ae
  have ho:=Iv (cp ((l.take n).take k)) ((l.take n).getD k 0).toNat ae (by have:=UInt8.toNat_lt ((l.take n).getD k 0);omega)
  have hb:=UInt8.toNat_lt ((l.take n).getD k 0)
  generalize hL:l.take n=L at *
  refine Qh @hlen ?_
  refine ⟨k + 1,by omega,⟨[],?_⟩,by omega⟩
  refine Qh (An @hs @hlen) ?_
  have m1:l.take (min k n)=L.take k:=by rw[← hL,List.take_take]
  have m2:l.take (min (k + 1) n)=L.take (k + 1):=by rw[← hL,List.take_take]
  have m3:(2:Int) ^ min 8 64=256:=by decide
  rw[m1,m2,m3,hs,ho]
 ·have:k=n:=by omega
  subst this
  refine Qe ?_
  refine ⟨[],?_⟩
  exact Qr
theorem Xh2 (gl:Nat→AV) (l:List UInt8) (bad:Bool) (n:Nat) (hn:l.length < n) (h8:n≤1000) :
  GS Tryz.prog gl 82 [.ptr 0 0,.int .i64 n] [(0,.cells [.str l,.bool bad])] 1 (.int .i64 0) [(0,.cells [.str [],.bool true])] 1:=by
 refine Oq.gs (of_decide_eq_true rfl) (by simp[Bk.live]) fun c aY hg=>?_
 conv in aQ _ _=>cbv
 refine Qe ?_
 (refine Qa (fun h1=>?_) (fun h1=>?_)<;>try exact h1.elim)
 ·refine Qe ?_
  refine ⟨[],?_⟩
  exact Qr
 ·omega
theorem td8 (x:Int) (h:-70000≤x∧x≤70000):-70000≤x.tdiv 8∧x.tdiv 8≤70000:=by
 by_cases h0:0≤x
 ·rw[Int.tdiv_eq_ediv_of_nonneg h0];omega
 ·have e:x.tdiv 8=-((-x).tdiv 8):=by rw[Int.neg_tdiv,Int.neg_neg]
  rw[e,Int.tdiv_eq_ediv_of_nonneg ae];omega
theorem Yb3 {t s a b:Int} (h:Zk t s a b=true):qu t s a b=0:=if_pos h
theorem Xyw {t s a b:Int} (h:qu t s a b=0):Zk t s a b=true:=by
 unfold qu at h
 split at h
 ·assumption
 ·cases h
def EF:List AV:=[.int .i64 0,.int .i64 0,.int .i64 0,.int .i64 0,.bool false]
def EG:Option Ev→AV
 | some e=>.aU [.agg e.enc,.int .i64 0]
 | none=>.aU [.agg EF,.int .i64 2]
theorem Wn (gl:Nat→AV) (l:List UInt8) (bad:Bool) (n:Nat) (v:Int) (hv:cp (l.take n)=v) (hn:n≤l.length) (h8:n≤1000) :
  GS Tryz.prog gl 82 [.ptr 0 0,.int .i64 n] [(0,.cells [.str l,.bool bad])] 1 (.int .i64 v) [(0,.cells [.str (l.drop n),.bool bad])] 1:=hv ▸ WY gl l bad n hn h8
def Ox (Z1 Z2 T I O F E K:Int):Prop:=1≤K∧K≤2∧0≤F - 1024∧(F - 1024).tmod 8=0∧E=F + 8 - 1∧Zk T (I - Z2 - 1) (O - Z1 - 1) ((F - 1024).tdiv 8)=true
def EH (Z1 Z2 T I O F K:Int):AV:=.aU [.agg [.int .i64 T,.int .i64 (I - Z2 - 1),.int .i64 (O - Z1 - 1),.int .i64 ((F - 1024).tdiv 8),.bool (K == 2)],.int .i64 0]
def H7:AV:=.aU [.agg EF,.int .i64 2]
open Classical in
noncomputable def EI (Z1 Z2 T I O F E K:Int):AV:=if Ox Z1 Z2 T I O F E K then EH Z1 Z2 T I O F K else H7
theorem Yf7 (l:List UInt8):EG (u5 l)=EI 3405803776 167772160 (cp (l.take 8)) (cp ((l.drop 8).take 4)) (cp ((l.drop 12).take 4)) (cp ((l.drop 16).take 2)) (cp ((l.drop 18).take 2)) (cp ((l.drop 20).take 1)):=by
 have e1:∀ I:Int,I - 167772161=I - 167772160 - 1:=fun I=>by omega
 have e2:∀ O:Int,O - 3405803777=O - 3405803776 - 1:=fun O=>by omega
 have e3:∀ F:Int,F + 7=F + 8 - 1:=fun F=>by omega
 unfold u5 EI
 have hc:EE l=Ox 3405803776 167772160 (cp (l.take 8)) (cp ((l.drop 8).take 4)) (cp ((l.drop 12).take 4)) (cp ((l.drop 16).take 2)) (cp ((l.drop 18).take 2)) (cp ((l.drop 20).take 1)):=by
  unfold EE Ox u4
  simp only[e1,e2,e3]
 by_cases h:EE l
 ·rw[if_pos h,if_pos (hc ▸ h)]
  unfold u4 EG Ev.enc EH
  simp only[e1,e2]
 ·rw[if_neg h,if_neg (hc ▸ h)]
  rfl
set_option maxRecDepth 20000 in
set_option maxHeartbeats 1000000 in
theorem Xl0 (gl:Nat→AV) (l:List UInt8) (bad:Bool) (hl:21≤l.length) (T I O F E K:Int) (h1:cp (l.take 8)=T) (h2:cp ((l.drop 8).take 4)=I) (h3:cp ((l.drop 12).take 4)=O) (h4:cp ((l.drop 16).take 2)=F) (h5:cp ((l.drop 18).take 2)=E) (h6:cp ((l.drop 20).take 1)=K)
  (l2:0≤I∧I < 4294967296) (l3:0≤O∧O < 4294967296) (l4:0≤F∧F < 65536) (l5:0≤E∧E < 65536) (l6:0≤K∧K < 256) :
  GS Tryz.prog gl 84 [.ptr 0 0] [(0,.cells [.str l,.bool bad])] 1 (EI 3405803776 167772160 T I O F E K) [(0,.cells [.str (l.drop 21),.bool bad])] 1:=by
 refine Xt3.gs (of_decide_eq_true rfl) (by simp[Bk.live]) fun c aY hg=>?_
 conv in aQ _ _=>cbv
 have a1:=Wn c.gl l bad 8 _ h1 ae aI
 have a2:=Wn c.gl (l.drop 8) bad 4 _ h2 (by simp only[List.length_drop];omega) aI
 have a3:=Wn c.gl (l.drop 12) bad 4 _ h3 (by simp only[List.length_drop];omega) aI
 have a4:=Wn c.gl (l.drop 16) bad 2 _ h4 (by simp only[List.length_drop];omega) aI
 have a5:=Wn c.gl (l.drop 18) bad 2 _ h5 (by simp only[List.length_drop];omega) aI
 have a6:=Wn c.gl (l.drop 20) bad 1 _ h6 (by simp only[List.length_drop];omega) aI
 obtain ⟨Z1,pW,sa⟩:∃ Z:Int,(3405803776:Int)=Z∧0≤Z∧Z≤4294967296:=⟨_,rfl,by decide,by decide⟩
 obtain ⟨Z2,sT,NU⟩:∃ Z:Int,(167772160:Int)=Z∧0≤Z∧Z≤4294967296:=⟨_,rfl,by decide,by decide⟩
 rw[pW,sT]
 clear pW sT h1 h2 h3 h4 h5 h6
 refine Qe ?_
 refine so (ip [0]) a1 ?_
 refine so (ip [0]) a2 ?_
 refine Xm (ip [0]) a3 @List.drop_drop.{0} ?_
 refine Xm (ip [0]) a4 @List.drop_drop.{0} ?_
 refine Xm (ip [0]) a5 @List.drop_drop.{0} ?_
 refine Xm (ip [0]) a6 @List.drop_drop.{0} ?_
 clear a1 a2 a3 a4 a5 a6
 ((first|apply Ym|apply Ya|apply Xn|apply Xj)<;>(first|exact (KE _ _ _ _ _ _)|(refine XG ?_;first|exact rfl|exact True.intro|((try (repeat' with_reducible refine And.intro ?_ ?_));(try any_goals (first|refine zm ?_|exact CL|fail))))))
 have e3:IntKind.i64.wrap ((F - 1024).tdiv 8)=(F - 1024).tdiv 8:=by
  have:=td8 (F - 1024) ae
  rw[IntKind.wrap_i64];omega
 (refine Qa (fun h7=>?_) (fun h7=>?_)<;>try exact h7.elim)
 ·rw[e3]at h7
  have hX:EI Z1 Z2 T I O F E K=H7:=if_neg fun h=>by
   obtain ⟨a1,a2,a3,a4,a5,a6⟩:=h
   have:=Yb3 a6
   omega
  rw[hX]
  clear hX
  refine Qh (An @EF.eq_1 @H7.eq_1) ?_
  refine ⟨[],?_⟩
  exact Qq (An @EF.eq_1 @H7.eq_1)
 ·rw[e3]at h7
  have hX:EI Z1 Z2 T I O F E K=EH Z1 Z2 T I O F K:=if_pos ⟨by omega,by omega,by omega,by omega,by omega,Xyw ae⟩
  rw[hX]
  clear hX h7
  refine Qh @EH.eq_1 ?_
  refine ⟨[],?_⟩
  exact Qq (An @e3 @EH.eq_1)
theorem Xw7 (gl:Nat→AV) (l:List UInt8) (bad:Bool) (hl:21≤l.length) :
  GS Tryz.prog gl 84 [.ptr 0 0] [(0,.cells [.str l,.bool bad])] 1 (EG (u5 l)) [(0,.cells [.str (l.drop 21),.bool bad])] 1:=by
 rw[Yf7]
 exact Xl0 gl l bad hl _ _ _ _ _ _ rfl rfl rfl rfl rfl rfl (E6 _ (tc _ _ _ ae)) (E6 _ (tc _ _ _ ae)) (E7 _ (tc _ _ _ ae)) (E7 _ (tc _ _ _ ae)) (Yc2 _ (tc _ _ _ ae))
theorem Oy (s:List UInt8) (k:Nat) (h:k + 2≤s.length):0≤n2 s k∧n2 s k≤65535:=by
 have:=E7 ((s.drop k).take 2) (tc _ _ _ h)
 unfold n2;omega
theorem WZ (s:List UInt8) (k:Nat) (h:k + 4≤s.length):0≤n4 s k∧n4 s k≤4294967295:=by
 have:=E6 ((s.drop k).take 4) (tc _ _ _ h)
 unfold n4;omega
def W0:Ev:=⟨0,0,0,0,false⟩
def lZ (l:List Ev):Int:=(l.getD (l.length - 1) W0).t
noncomputable def sV (time:Int):Nat→List Ev→List UInt8→Option (List Ev)
 | 0,l,_=>some l
 | m + 1,l,b=>match u5 b with
  | none=>none
  | some e=>if e.t % 4294967296=time∧(l=[]∨lZ l≤e.t) then sV time m (l++[e]) (b.drop 21) else none
def pZ (s:List UInt8):Prop:=16≤s.length∧n2 s 0=10∧20≤n2 s 2∧n2 s 2≤s.length∧n4 s 12=1
def rO (s:List UInt8):Prop:=(n2 s 16=2∨n2 s 16=300)∧n2 s 18=n2 s 2 - 16
def Oz (l:List Ev):AV:=.aU [.isl l.length (Yh l),.int .i64 0]
def W1 (e:Int):AV:=.aU [.nils,.int .i64 e]
def Zx (s:List UInt8):Nat:=(n2 s 2).toNat
open Classical in
noncomputable def Yn:Nat→List Ev→Bool→List UInt8→Except Int (List Ev)
 | 0,l,_,_=>.ok l
 | f + 1,l,k,s =>
  if s=[] then .ok l
  else if ¬ pZ s then .error 1
  else if ¬ rO s then .error 1
  else if n4 s 8≠l.length then .error 3
  else if n2 s 16=2 then if Yi l.length 0 2 (Wh 6)=s.take (Zx s) then Yn f l true (s.drop (Zx s)) else .error 4
  else if k=false then .error 7
  else if Zx s=20∨(Zx s - 20) % 21≠0 then .error 1
  else match sV (n4 s 4) ((Zx s - 20) / 21) l ((s.take (Zx s)).drop 20) with
   | none=>.error 2
   | some l'=>Yn f l' k (s.drop (Zx s))
noncomputable def EJ (s:List UInt8):Except Int (List Ev):=Yn s.length [] false s
def EK:Except Int (List Ev)→AV
 | .ok l=>Oz l
 | .error e=>W1 e
theorem Xz4 (n:Nat) (x:Except Int (List Ev)):Qf n (EK x):=by
 cases x with
 | error e=>simp[EK,W1,Qf,ah]
 | ok l=>simp[EK,Oz,Qf,ah,Ul]
section
variable {f:Nat} {l:List Ev} {k:Bool} {s:List UInt8}
theorem yQ:Yn f l k []=.ok l:=by cases f<;>simp[Yn]
theorem H8 (h0:s≠[]) (h1:¬ pZ s):Yn (f + 1) l k s=.error 1:=by unfold Yn;rw[if_neg h0,if_pos h1]
theorem OA (h0:s≠[]) (h1:pZ s) (h2:¬ rO s):Yn (f + 1) l k s=.error 1:=by unfold Yn;rw[if_neg h0,if_neg (Classical.not_not.2 h1),if_pos h2]
theorem OB (h0:s≠[]) (h1:pZ s) (h2:rO s) (h3:n4 s 8≠l.length):Yn (f + 1) l k s=.error 3:=by unfold Yn;rw[if_neg h0,if_neg (Classical.not_not.2 h1),if_neg (Classical.not_not.2 h2),if_pos h3]
theorem OC (h0:s≠[]) (h1:pZ s) (h2:rO s) (h3:n4 s 8=l.length) (h4:n2 s 16=2) (h5:¬ Yi l.length 0 2 (Wh 6)=s.take (Zx s)):Yn (f + 1) l k s=.error 4:=by
 unfold Yn;rw[if_neg h0,if_neg (Classical.not_not.2 h1),if_neg (Classical.not_not.2 h2),if_neg (Classical.not_not.2 h3),if_pos h4,if_neg h5]
theorem H9 (h0:s≠[]) (h1:pZ s) (h2:rO s) (h3:n4 s 8=l.length) (h4:n2 s 16=2) (h5:Yi l.length 0 2 (Wh 6)=s.take (Zx s)):Yn (f + 1) l k s=Yn f l true (s.drop (Zx s)):=by
 rw[Yn,if_neg h0,if_neg (Classical.not_not.2 h1),if_neg (Classical.not_not.2 h2),if_neg (Classical.not_not.2 h3),if_pos h4,if_pos h5]
theorem OD (h0:s≠[]) (h1:pZ s) (h2:rO s) (h3:n4 s 8=l.length) (h4:n2 s 16≠2) (h5:k=false):Yn (f + 1) l k s=.error 7:=by
 unfold Yn;rw[if_neg h0,if_neg (Classical.not_not.2 h1),if_neg (Classical.not_not.2 h2),if_neg (Classical.not_not.2 h3),if_neg h4,if_pos h5]
theorem OE (h0:s≠[]) (h1:pZ s) (h2:rO s) (h3:n4 s 8=l.length) (h4:n2 s 16≠2) (h5:k=true) (h6:Zx s=20∨(Zx s - 20) % 21≠0):Yn (f + 1) l k s=.error 1:=by
 unfold Yn;rw[if_neg h0,if_neg (Classical.not_not.2 h1),if_neg (Classical.not_not.2 h2),if_neg (Classical.not_not.2 h3),if_neg h4,if_neg (by simp[h5]),if_pos h6]
theorem Ia (h0:s≠[]) (h1:pZ s) (h2:rO s) (h3:n4 s 8=l.length) (h4:n2 s 16≠2) (h5:k=true) (h6:¬ (Zx s=20∨(Zx s - 20) % 21≠0)):Yn (f + 1) l k s =
  match sV (n4 s 4) ((Zx s - 20) / 21) l ((s.take (Zx s)).drop 20) with
   | none=>.error 2
   | some l'=>Yn f l' k (s.drop (Zx s)):=by
 rw[Yn,if_neg h0,if_neg (Classical.not_not.2 h1),if_neg (Classical.not_not.2 h2),if_neg (Classical.not_not.2 h3),if_neg h4,if_neg (by simp[h5]),if_neg h6]
end
theorem EL (gl:Nat→AV) (l:List UInt8) (bad:Bool) (n:Nat) (h8:n≤1000):∃ (v:Int) (l':List UInt8) (b':Bool),l'.length=l.length - n∧(l.length < n∨bad=true→b'=true) ∧
  GS Tryz.prog gl 82 [.ptr 0 0,.int .i64 n] [(0,.cells [.str l,.bool bad])] 1 (.int .i64 v) [(0,.cells [.str l',.bool b'])] 1:=by
 by_cases h:l.length < n
 ·exact ⟨_,_,_,by simp;omega,fun _=>rfl,Xh2 gl l bad n h h8⟩
 ·exact ⟨_,_,_,by rw[List.length_drop],fun h2=>h2.elim (fun h3=>(h h3).elim) id,WY gl l bad n ae h8⟩
theorem Xpn {x:List UInt8} {e:Ev} (h:u5 x=some e):e.bQ:=by
 unfold u5 at h
 split at h
 ·rename_i aX
  cases h
  exact (Ow _).1 aX.2.2.2.2.2
 ·cases h
theorem Xqf (l:List Ev) (h:l≠[]):(Yh l).getD ((l.length - 1) * 5) .any=.int .i64 (lZ l):=by
 have hp:0 < l.length:=List.length_pos_iff.2 h
 have:=U7 l (l.length - 1) ae 0 ae
 rw[Nat.add_zero]at this
 rw[this]
 unfold lZ
 simp[Ev.enc,List.getD,show l.length - 1 < l.length by omega]
theorem Yd4 (N:Nat) (h:20≤N):((N:Int) - 20).tmod 21=(((N - 20) % 21:Nat):Int):=by
 rw[Int.tmod_eq_emod_of_nonneg ae];omega
theorem W3 (l:List Ev) (t s a b:Int) (f:Bool):Yh l++[.int .i64 t,.int .i64 s,.int .i64 a,.int .i64 b,.bool f]=Yh (l++[⟨t,s,a,b,f⟩]):=by
 simp[Yh,Ev.enc]
structure RdI where
 f:Nat
 l:List Ev
 k:Bool
 s:List UInt8
structure EvI where
 m:Nat
 l:List Ev
 b:List UInt8
set_option maxHeartbeats 4000000 in
set_option maxRecDepth 20000 in
theorem Xzp (gl:Nat→AV) (h0:gl 0=.xp (Qo Xs) 0) (s0:List UInt8) (hl:s0.length≤140737488355328):PS Tryz.prog gl 54 [.str s0] (EK (EJ s0)):=by
 refine Oo.ps (of_decide_eq_true rfl) (Xz4 _ _) fun c hN hg=>?_
 conv in aQ _ _=>cbv
 have htm:=fun q=>RA c.gl (by rw[hg];exact h0) q
 generalize hR:EJ s0=R
 refine Qe ?_
 refine vF 4 5 rfl rfl ?_
 refine Xd (fun x:RdI=>Yn x.f x.l x.k x.s=R∧x.s.length≤x.f∧x.l.length * 21 + x.s.length≤s0.length) (fun x=>⟨[(0,.str x.s),(4,.sl 5 0 0 x.l.length x.l.length),(5,.bool x.k)],[(0,.cells (Yh x.l))],1⟩) (fun x=>x.s.length) Oo.mixed hN
  ⟨⟨s0.length,[],false,s0⟩,⟨hR,Nat.le_refl _,by simp⟩,[],by refine Qh @St.named.eq_1 ?_;exact rfl⟩ fun ⟨f,l,k,s⟩ ⟨he,hf,hb⟩=>?_
 dsimp only at he hf hb
 have aH:=wq l
 refine Qe ?_
 (refine Qa (fun h1=>?_) (fun h1=>?_)<;>try exact h1.elim)
 rotate_left
 ·subst h1
  rw[yQ]at he
  subst he
  refine Qh @aH ?_
  rfl
 have nM:0 < s.length:=List.length_pos_iff.2 h1
 obtain ⟨f,rfl⟩:∃ j,f=j + 1:=⟨f - 1,by omega⟩
 by_cases h16:s.length < 16
 ·rw[H8 h1 fun h=>by have:=h.1;omega]at he
  subst he
  obtain ⟨v1,l1,b1,L1,q1,G1⟩:=EL c.gl s false 2 aI
  obtain ⟨v2,l2,b2,L2,q2,G2⟩:=EL c.gl l1 b1 2 aI
  obtain ⟨v3,l3,b3,L3,q3,G3⟩:=EL c.gl l2 b2 4 aI
  obtain ⟨v4,l4,b4,L4,q4,G4⟩:=EL c.gl l3 b3 4 aI
  obtain ⟨v5,l5,b5,L5,q5,G5⟩:=EL c.gl l4 b4 4 aI
  have lV:b5=true:=by
   rcases (show s.length < 2∨l1.length < 2∨l2.length < 4∨l3.length < 4∨l4.length < 4 by omega) with h|h|h|h|h
   ·exact q5 (.inr (q4 (.inr (q3 (.inr (q2 (.inr (q1 (.inl h)))))))))
   ·exact q5 (.inr (q4 (.inr (q3 (.inr (q2 (.inl h)))))))
   ·exact q5 (.inr (q4 (.inr (q3 (.inl h)))))
   ·exact q5 (.inr (q4 (.inl h)))
   ·exact q5 (.inl h)
  subst lV
  refine Qe ?_
  refine so (ip [1]) G1 ?_
  refine so (ip [1]) G2 ?_
  refine so (ip [1]) G3 ?_
  refine so (ip [1]) G4 ?_
  refine so (ip [1]) G5 ?_
  (refine Qa (fun g1=>?_) (fun g1=>?_)<;>try exact g1.elim)
  refine Qe ?_
  rfl
 have hN0:=Oy s 2 ae
 have hNv:n2 s 2=((Zx s:Nat):Int):=by unfold Zx;omega
 have hq4:=WZ s 4 ae
 have hq8:=WZ s 8 ae
 have c1:=Wn c.gl s false 2 (n2 s 0) rfl ae aI
 have c2:=Wn c.gl (s.drop 2) false 2 (n2 s 2) rfl (by rw[List.length_drop];omega) aI
 have c3:=Wn c.gl (s.drop 4) false 4 (n4 s 4) rfl (by rw[List.length_drop];omega) aI
 have c4:=Wn c.gl (s.drop 8) false 4 (n4 s 8) rfl (by rw[List.length_drop];omega) aI
 have c5:=Wn c.gl (s.drop 12) false 4 (n4 s 12) rfl (by rw[List.length_drop];omega) aI
 rw[hNv]at c2
 refine Qe ?_
 refine Xm (ip [1]) c1 @List.drop_drop.{0} ?_
 refine Xm (ip [1]) c2 @List.drop_drop.{0} ?_
 refine Xm (ip [1]) c3 @List.drop_drop.{0} ?_
 refine Xm (ip [1]) c4 @List.drop_drop.{0} ?_
 refine Xm (ip [1]) c5 @List.drop_drop.{0} ?_
 clear c1 c2 c3 c4 c5
 (refine Qa (fun h2=>?_) (fun h2=>?_)<;>try exact h2.elim)
 ·rw[H8 h1 fun h=>by obtain ⟨_,a2,a3,a4,a5⟩:=h;omega]at he
  subst he
  refine Qe ?_
  rfl
 have hd:pZ s:=⟨by omega,by omega,by omega,by omega,by omega⟩
 have Fm:=Oy s 16 ae
 have hs3:=Oy s 18 ae
 have c6:=Wn c.gl (s.drop 16) false 2 (n2 s 16) rfl (by rw[List.length_drop];omega) aI
 have c7:=Wn c.gl (s.drop 18) false 2 (n2 s 18) rfl (by rw[List.length_drop];omega) aI
 refine Qe ?_
 refine Xm (ip [1]) c6 @List.drop_drop.{0} ?_
 refine Xm (ip [1]) c7 @List.drop_drop.{0} ?_
 clear c6 c7
 (refine Qa (fun h3=>?_) (fun h3=>?_)<;>try exact h3.elim)
 ·rw[OA h1 hd fun h=>by obtain ⟨a2,a3⟩:=h;omega]at he
  subst he
  refine Qe ?_
  rfl
 have hs:rO s:=⟨by omega,by omega⟩
 refine Qh @aH ?_
 (refine Qa (fun h4=>?_) (fun h4=>?_)<;>try exact h4.elim)
 ·rw[OB h1 hd hs h4]at he
  subst he
  refine Qe ?_
  rfl
 refine Qe ?_
 (refine Qa (fun h5=>?_) (fun h5=>?_)<;>try exact h5.elim)
 ·have ht:=htm (n4 s 8)
  have e4:kx (n4 s 8) 0 2 (Wh 6)=.aU [.str (Yi l.length 0 2 (Wh 6)),.int .i64 0]:=by rw[h4];exact if_pos ae
  rw[e4]at ht
  have oK:(Yi l.length 0 2 (Wh 6)).length=48:=by rw[HZ,Cs 6 ae]
  refine Qe ?_
  refine Qv ht @oK ?_
  (refine Qa (fun h6=>?_) (fun h6=>?_)<;>try exact h6.elim)
  ·rw[OC h1 hd hs h4 h5 h6]at he
   subst he
   refine Qe ?_
   rfl
  ·rw[H9 h1 hd hs h4 h5 h6]at he
   refine Qe ?_
   refine ⟨⟨f,l,true,s.drop (Zx s)⟩,⟨he,?_,?_⟩,⟨[],?_⟩,?_⟩
   ·dsimp only;rw[List.length_drop];omega
   ·dsimp only;rw[List.length_drop];omega
   ·exact Qr
   ·dsimp only;rw[List.length_drop];omega
 refine Qe ?_
 (refine Qa (fun h7=>?_) (fun h7=>?_)<;>try exact h7.elim)
 ·rw[OD h1 hd hs h4 h5 h7]at he
  subst he
  refine Qe ?_
  rfl
 have h7:k=true:=by simpa using h7
 have OF:=Yd4 (Zx s) ae
 refine Qe ?_
 have Bq:20≤Zx s:=by omega
 have ie:Zx s≤s.length:=by omega
 by_cases h8:Zx s=20∨(Zx s - 20) % 21≠0
 ·rw[OE h1 hd hs h4 h5 h7 h8]at he
  subst he
  (refine Qa (fun h9=>?_) (fun h9=>?_)<;>try exact h9.elim)
  ·refine Qe ?_
   rfl
  ·rw[OF]at h9
   omega
 rw[Ia h1 hd hs h4 h5 h7 h8]at he
 (refine Qa (fun h9=>?_) (fun h9=>?_)<;>try exact h9.elim)
 ·rw[OF]at h9
  omega
 refine Qe ?_
 have fk:((s.take (Zx s)).drop 20).length=21 * ((Zx s - 20) / 21):=by rw[List.length_drop,List.length_take];omega
 rw[List.drop_take]at fk he
 generalize hB:(s.drop 20).take (Zx s - 20)=B at *
 generalize hM:(Zx s - 20) / 21=M at *
 generalize hV:sV (n4 s 4) M l B=V at *
 refine Xd (fun x:EvI=>sV (n4 s 4) x.m x.l x.b=V∧x.b.length=21 * x.m∧x.l.length + x.m≤l.length + M) (fun x=>⟨[(0,.str s),(4,.sl 5 0 0 x.l.length x.l.length),(5,.bool true),(6,.ptr 1 0),(8,.int .i64 (Zx s)),(9,.int .i64 (n4 s 4))],[(0,.cells (Yh x.l)),(1,.cells [.str x.b,.bool false])],2⟩) (fun x=>x.m) Oo.mixed hN
  ⟨⟨M,l,B⟩,⟨hV,fk,Nat.le_refl _⟩,[],by exact Qq (An @hB (An @aH @h7))⟩ fun ⟨m,l',b⟩ ⟨hv,gJ,iy⟩=>?_
 dsimp only at hv gJ iy
 have EM:=wq l'
 refine Qe ?_
 (refine Qa (fun fC=>?_) (fun fC=>?_)<;>try exact fC.elim)
 ·have fo:0 < b.length:=List.length_pos_iff.2 fC
  obtain ⟨m,rfl⟩:∃ j,m=j + 1:=⟨m - 1,by omega⟩
  have fa:=Xw7 c.gl b false ae
  rw[sV]at hv
  clear hB hV OF
  cases Ct:u5 b with
  | none =>
   rw[Ct]at fa hv
   dsimp only at hv
   subst hv
   dsimp only at he
   subst he
   unfold EG EF at fa
   refine Qe ?_
   refine so (ip [1]) fa ?_
   (refine Qa (fun g1=>?_) (fun g1=>?_)<;>try exact g1.elim)
   refine Qe ?_
   rfl
  | some e =>
   rw[Ct]at fa hv
   have bc:=Xpn Ct
   obtain ⟨t,sb,a,bk,fr⟩:=e
   obtain ⟨t0,t1,s0',s1,a0,a1,k0,k1⟩:=bc
   dsimp only at hv t0 t1 s0' s1 a0 a1 k0 k1
   unfold EG Ev.enc at fa
   dsimp only at fa
   have EN:t.tmod 4294967296=t % 4294967296:=Int.tmod_eq_emod_of_nonneg t0
   refine Qe ?_
   refine so (ip [1]) fa ?_
   (refine Qa (fun g1=>?_) (fun g1=>?_)<;>try exact g1.elim)
   by_cases um:l'=[]
   ·have e6:decide (0 < (l'.length:Int))=false:=by subst um;rfl
    refine Qh (An @EN @e6) ?_
    (refine Qa (fun g2=>?_) (fun g2=>?_)<;>try exact g2.elim)
    ·have kS:¬ (t % 4294967296=n4 s 4∧(l'=[]∨lZ l'≤t)):=fun h=>by have:=h.1;omega
     rw[if_neg kS]at hv
     subst hv
     dsimp only at he
     subst he
     refine Qe ?_
     rfl
    ·have kS:(t % 4294967296=n4 s 4∧(l'=[]∨lZ l'≤t)):=⟨by omega,.inl um⟩
     rw[if_pos kS]at hv
     refine Qe ?_
     refine Ja ?_
     refine Zj @EM ?_
     refine ⟨⟨m,l'++[(⟨t,sb,a,bk,fr⟩:Ev)],b.drop 21⟩,⟨hv,?_,?_⟩,⟨[(0,4)],?_⟩,?_⟩
     ·dsimp only;rw[List.length_drop];omega
     ·dsimp only;rw[List.length_append];simp only[List.length_cons,List.length_nil];omega
     ·have dR:=W3 l' t sb a bk fr
      have sI:(l'++[(⟨t,sb,a,bk,fr⟩:Ev)]).length=l'.length + 1:=by simp
      exact Qq (An @dR @sI)
     ·dsimp only;omega
   ·have rL:=Xqf l' um
    have hlp:0 < l'.length:=List.length_pos_iff.2 um
    have e5:((l'.length:Int) - 1).toNat=l'.length - 1:=by omega
    have e6:decide (0 < (l'.length:Int))=true:=by simp;omega
    refine Qh (An @EN (An @rL (An @e5 @e6))) ?_
    (refine Qa (fun g2=>?_) (fun g2=>?_)<;>try exact g2.elim)
    ·have kS:¬ (t % 4294967296=n4 s 4∧(l'=[]∨lZ l'≤t)):=fun h=>by
      rcases h with ⟨q1,q2|q2⟩
      ·exact um q2
      ·omega
     rw[if_neg kS]at hv
     subst hv
     dsimp only at he
     subst he
     refine Qe ?_
     rfl
    ·have kS:(t % 4294967296=n4 s 4∧(l'=[]∨lZ l'≤t)):=⟨by omega,.inr ae⟩
     rw[if_pos kS]at hv
     refine Qe ?_
     refine Ja ?_
     refine Zj @EM ?_
     refine ⟨⟨m,l'++[(⟨t,sb,a,bk,fr⟩:Ev)],b.drop 21⟩,⟨hv,?_,?_⟩,⟨[(0,4)],?_⟩,?_⟩
     ·dsimp only;rw[List.length_drop];omega
     ·dsimp only;rw[List.length_append];simp only[List.length_cons,List.length_nil];omega
     ·have dR:=W3 l' t sb a bk fr
      have sI:(l'++[(⟨t,sb,a,bk,fr⟩:Ev)]).length=l'.length + 1:=by simp
      exact Qq (An @dR @sI)
     ·dsimp only;omega
 ·have GI:m=0:=by rw[List.length_eq_zero_iff.2 (by simpa using fC)]at gJ;omega
  subst GI
  rw[sV]at hv
  subst hv
  dsimp only at he
  refine Qe ?_
  refine ⟨⟨f,l',k,s.drop (Zx s)⟩,⟨he,?_,?_⟩,⟨[],?_⟩,?_⟩
  ·dsimp only;rw[List.length_drop];omega
  ·dsimp only;rw[List.length_drop];omega
  ·exact Qq @h7
  ·dsimp only;rw[List.length_drop];omega
theorem yR (a b c:List UInt8) (k n:Nat) (ha:a.length=k) (hb:b.length=n):((a++(b++c)).drop k).take n=b:=by
 subst ha;subst hb
 rw[List.drop_left,List.take_left]
theorem Xo0 (q t set:Int) (bs rest:List UInt8) :
  n2 (Yi q t set bs++rest) 0=cp (be 10 2)∧n2 (Yi q t set bs++rest) 2=cp (be (20 + bs.length) 2)∧n4 (Yi q t set bs++rest) 4=cp (be (t.tmod 4294967296) 4)∧n4 (Yi q t set bs++rest) 8=cp (be q 4) ∧
  n4 (Yi q t set bs++rest) 12=cp (be 1 4)∧n2 (Yi q t set bs++rest) 16=cp (be set 2)∧n2 (Yi q t set bs++rest) 18=cp (be (4 + bs.length) 2):=by
 have hl:∀ (v:Int) (n:Nat),(be v n).length=n:=fun v n=>Qp v n
 unfold Yi n2 n4
 simp only[List.append_assoc]
 generalize e1:be 10 2=x1
 generalize e2:be (20 + bs.length) 2=x2
 generalize e3:be (t.tmod 4294967296) 4=x3
 generalize e4:be q 4=x4
 generalize e5:be 1 4=x5
 generalize e6:be set 2=x6
 generalize e7:be (4 + bs.length) 2=x7
 have l1:x1.length=2:=by rw[← e1,hl]
 have l2:x2.length=2:=by rw[← e2,hl]
 have l3:x3.length=4:=by rw[← e3,hl]
 have l4:x4.length=4:=by rw[← e4,hl]
 have l5:x5.length=4:=by rw[← e5,hl]
 have l6:x6.length=2:=by rw[← e6,hl]
 have l7:x7.length=2:=by rw[← e7,hl]
 refine ⟨?_,?_,?_,?_,?_,?_,?_⟩
 ·have:=yR [] x1 (x2++(x3++(x4++(x5++(x6++(x7++(bs++rest))))))) 0 2 rfl l1
  rw[List.nil_append]at this;rw[this]
 ·rw[yR x1 x2 _ 2 2 l1 l2]
 ·have:=yR (x1++x2) x3 (x4++(x5++(x6++(x7++(bs++rest))))) 4 4 (by simp[l1,l2]) l3
  simp only[List.append_assoc]at this;rw[this]
 ·have:=yR (x1++(x2++x3)) x4 (x5++(x6++(x7++(bs++rest)))) 8 4 (by simp[l1,l2,l3]) l4
  simp only[List.append_assoc]at this;rw[this]
 ·have:=yR (x1++(x2++(x3++x4))) x5 (x6++(x7++(bs++rest))) 12 4 (by simp[l1,l2,l3,l4]) l5
  simp only[List.append_assoc]at this;rw[this]
 ·have:=yR (x1++(x2++(x3++(x4++x5)))) x6 (x7++(bs++rest)) 16 2 (by simp[l1,l2,l3,l4,l5]) l6
  simp only[List.append_assoc]at this;rw[this]
 ·have:=yR (x1++(x2++(x3++(x4++(x5++x6))))) x7 (bs++rest) 18 2 (by simp[l1,l2,l3,l4,l5,l6]) l7
  simp only[List.append_assoc]at this;rw[this]
structure oY (q t set:Int) (bs:List UInt8):Prop where
 q0:0≤q∧q < 4294967296
 t0:0≤t∧t < 4294967296
 s0:set=2∨set=300
 b0:bs.length≤10000
theorem oY.yS {q t set:Int} {bs rest:List UInt8} (h:oY q t set bs):n2 (Yi q t set bs++rest) 0=10∧n2 (Yi q t set bs++rest) 2=20 + bs.length∧n4 (Yi q t set bs++rest) 4=t∧n4 (Yi q t set bs++rest) 8=q ∧
  n4 (Yi q t set bs++rest) 12=1∧n2 (Yi q t set bs++rest) 16=set∧n2 (Yi q t set bs++rest) 18=4 + bs.length:=by
 obtain ⟨⟨q0,q1⟩,⟨t0,t1⟩,s0,b0⟩:=h
 obtain ⟨p1,p2,p3,p4,p5,p6,p7⟩:=Xo0 q t set bs rest
 have et:t.tmod 4294967296=t:=by rw[Int.tmod_eq_emod_of_nonneg t0];omega
 rw[p1,p2,p3,p4,p5,p6,p7,et]
 refine ⟨Ut _ _ aI aI aI aI,Ut _ _ aI ae ae ae,Ut _ _ aI t0 ae ae,Ut _ _ aI q0 ae ae,
  Ut _ _ aI aI aI aI,Ut _ _ aI ae ae ae,Ut _ _ aI ae ae ae⟩
theorem oY.ok {q t set:Int} {bs rest:List UInt8} (h:oY q t set bs):Yi q t set bs++rest≠[]∧pZ (Yi q t set bs++rest)∧rO (Yi q t set bs++rest)∧Zx (Yi q t set bs++rest)=20 + bs.length ∧
  (Yi q t set bs++rest).take (20 + bs.length)=Yi q t set bs∧(Yi q t set bs++rest).drop (20 + bs.length)=rest:=by
 obtain ⟨p1,p2,p3,p4,p5,p6,p7⟩:=h.yS (rest:=rest)
 have hl:=HZ q t set bs
 have hs:=h.s0
 refine ⟨fun e=>?_,⟨?_,p1,by omega,?_,p5⟩,⟨by omega,by omega⟩,by unfold Zx;omega,?_,?_⟩
 ·have:=congrArg List.length e
  rw[List.length_append,hl]at this;simp at this
 ·rw[List.length_append,hl];omega
 ·rw[List.length_append,hl];omega
 ·rw[← hl,List.take_left]
 ·rw[← hl,List.drop_left]
theorem Ybt (f:Nat) (k:Bool) (rest:List UInt8):Yn (f + 1) [] k (Yi 0 0 2 (Wh 6)++rest)=Yn f [] true rest:=by
 have h:oY 0 0 2 (Wh 6):=⟨by decide,by decide,.inl rfl,by rw[Cs 6 ae];decide⟩
 obtain ⟨a1,a2,a3,a4,a5,a6⟩:=h.ok (rest:=rest)
 obtain ⟨_,_,_,p4,_,p6,_⟩:=h.yS (rest:=rest)
 rw[H9 a1 a2 a3 (by rw[p4];rfl) p6 (by rw[a4,a5];rfl),a4,a6]
def Br (t:Int) (p:List Ev):Prop:=∀ e ∈ p,e.bQ∧e.t=t
theorem W4:∀ (n:Nat) (f:Nat) (l:List Ev) (k:Bool) (s:List UInt8),s.length≤n→n≤f→Yn f l k s=Yn n l k s
 | 0,f,l,k,s,h,hf=>by
  have:s=[]:=List.eq_nil_of_length_eq_zero ae
  subst this;rw[yQ,yQ]
 | n + 1,0,l,k,s,h,hf=>by omega
 | n + 1,f + 1,l,k,s,h,hf=>by
  have ih:=fun l k (s:List UInt8) hs=>W4 n f l k s hs ae
  by_cases h0:s=[]
  ·subst h0;rw[yQ,yQ]
  by_cases h1:pZ s
  rotate_left
  ·rw[H8 h0 h1,H8 h0 h1]
  by_cases h2:rO s
  rotate_left
  ·rw[OA h0 h1 h2,OA h0 h1 h2]
  by_cases h3:n4 s 8=l.length
  rotate_left
  ·rw[OB h0 h1 h2 h3,OB h0 h1 h2 h3]
  have hn:20≤Zx s:=by obtain ⟨_,_,a3,_,_⟩:=h1;unfold Zx;omega
  have dS:0 < s.length:=List.length_pos_iff.2 h0
  by_cases h4:n2 s 16=2
  ·by_cases h5:Yi l.length 0 2 (Wh 6)=s.take (Zx s)
   ·rw[H9 h0 h1 h2 h3 h4 h5,H9 h0 h1 h2 h3 h4 h5]
    exact ih _ _ _ (by rw[List.length_drop];omega)
   ·rw[OC h0 h1 h2 h3 h4 h5,OC h0 h1 h2 h3 h4 h5]
  cases k with
  | false=>rw[OD h0 h1 h2 h3 h4 rfl,OD h0 h1 h2 h3 h4 rfl]
  | true =>
   by_cases h6:Zx s=20∨(Zx s - 20) % 21≠0
   ·rw[OE h0 h1 h2 h3 h4 rfl h6,OE h0 h1 h2 h3 h4 rfl h6]
   ·rw[Ia h0 h1 h2 h3 h4 rfl h6,Ia h0 h1 h2 h3 h4 rfl h6]
    split
    ·rfl
    ·exact ih _ _ _ (by rw[List.length_drop];omega)
theorem rP (v:Int) (h0:0≤v) (h1:v≤65535):cp [Qg v 1,Qg v 0]=v:=Ut v 2 (by decide) h0 (by omega) (by omega)
theorem Ib (v:Int) (h0:0≤v) (h1:v≤4294967295):cp [Qg v 3,Qg v 2,Qg v 1,Qg v 0]=v:=Ut v 4 (by decide) h0 (by omega) (by omega)
theorem Yfa (v:Int) (h0:0≤v) (h1:v≤65535) (l:List UInt8):Xh (Qg v 1::Qg v 0::l)=v.toNat + Xh l:=by
 have e1:=Lq v 1 ae h0
 have e0:=Lq v 0 ae h0
 simp only[Xh]
 omega
theorem W5 (X Z:List UInt8) (v:Int) (hX:X.length % 2=0) (h0:0≤v) (h1:v≤65535):Xh (X++be v 2++Z)=Xh X + v.toNat + Xh Z:=by
 rw[List.append_assoc,Bz _ _ hX]
 show Xh X + Xh (Qg v 1::Qg v 0::Z)=_
 rw[Yfa v h0 h1];omega
theorem Ya8 (X Z:List UInt8) (hX:X.length % 2=0):Xh (X++[0,0]++Z)=Xh X + Xh Z:=by
 rw[List.append_assoc,Bz _ _ hX]
 simp[Xh]
theorem Xt7 (T:Nat):Jb (T + (65535 - Jb T))=65535:=by
 unfold Jb;split<;>split<;>omega
theorem OG (X Z:List UInt8) (hX:X.length % 2=0):cq (X++be (Zb (X++[0,0]++Z)) 2++Z)=65535:=by
 have hl:=wM (X++[0,0]++Z)
 unfold cq
 rw[W5 X Z _ hX ae ae]
 unfold Zb cq
 rw[Ya8 X Z hX,Int.toNat_natCast]
 have:=Xt7 (Xh X + Xh Z)
 rw[show Xh X + (65535 - Jb (Xh X + Xh Z)) + Xh Z=Xh X + Xh Z + (65535 - Jb (Xh X + Xh Z)) by omega]
 exact this
theorem W6 (af aB dst av id n:Int):cq (Uw af aB dst av id n)=65535:=OG _ _ (by rw[Lr])
theorem Xi1 (af aB dst av id n:Int):∃ c:Int,Uw af aB dst av id n=[69,0,Qg (20 + n) 1,Qg (20 + n) 0,Qg id 1,Qg id 0,0,0,Qg av 0,Qg af 0,Qg c 1,Qg c 0,
  Qg aB 3,Qg aB 2,Qg aB 1,Qg aB 0,Qg dst 3,Qg dst 2,Qg dst 1,Qg dst 0]:=⟨_,rfl⟩
theorem Yc1 (p:Pk):gQ p≤65535:=by
 unfold gQ;split
 ·omega
 ·exact wM _
theorem Xn1 (p:Pk):(Uf p).length % 2=0:=by
 unfold Uf;split
 ·simp[Qp]
 ·split<;>simp[Qp]
theorem Xl1 (a b c d:Int):(Yt a b c d).length % 2=0:=by
 unfold Yt;split<;>simp[Qp]
theorem W7 (p:Pk):(js p).length=Xl p:=by simp[js,Xl,Qp];omega
theorem Yal (p:Pk):cq (Yt p.af p.aB p.dst (Xl p)++js p)=65535:=by
 have hX:(Yt p.af p.aB p.dst (Xl p)++Uf p).length % 2=0:=by
  have:=Xn1 p;have:=Xl1 p.af p.aB p.dst (Xl p)
  rw[List.length_append];omega
 have hk:=OG (Yt p.af p.aB p.dst (Xl p)++Uf p) (jP p) hX
 unfold js gQ
 rw[← List.append_assoc,← List.append_assoc]
 split
 ·rename_i h
  rw[h.2]at hk
  unfold cq at hk ⊢
  rw[W5 _ _ _ hX ae ae]at hk ⊢
  generalize Xh (Yt p.af p.aB p.dst (Xl p)++Uf p)=a at *
  generalize Xh (jP p)=b at *
  unfold Jb at hk ⊢
  split at hk
  ·cases hk
  ·split<;>omega
 ·exact hk
theorem Xeu (p:Pk):(Xk p).length=20 + Xl p:=by simp[Xk,Jh,W7]
theorem Xb5 (p:Pk):(Xk p).take 20=Uw p.af p.aB p.dst p.av p.id (Xl p):=List.take_left' (Jh _ _ _ _ _ _)
theorem Xav (p:Pk):(Xk p).drop 20=js p:=List.drop_left' (Jh _ _ _ _ _ _)
theorem Kf (p:Pk) (h:p.af=1∨p.af=6∨p.af=17):Xl p=(if p.af=6 then 20 else 8) + p.body.length:=by
 unfold Xl Uf jP
 rcases h with h|h|h<;>simp[h,Qp]<;>omega
theorem Xkp (af aB dst av id n:Int) (t:List UInt8) (h1:0≤af∧af < 256) (h2:0≤aB∧aB≤4294967295) (h3:0≤dst∧dst≤4294967295) (h4:0≤av∧av < 256) (h5:0≤id∧id≤65535) (h6:0≤n∧n≤65515) :
  let f:=Uw af aB dst av id n++t
  b1 f 0=69∧b1 f 1=0∧w2 f 2=20 + n∧w2 f 4=id∧w2 f 6=0∧b1 f 8=av∧b1 f 9=af∧w4 f 12=aB∧w4 f 16=dst:=by
 intro f
 obtain ⟨c,hc⟩:=Xi1 af aB dst av id n
 show b1 f 0=69∧_
 have hf:f=[69,0,Qg (20 + n) 1,Qg (20 + n) 0,Qg id 1,Qg id 0,0,0,Qg av 0,Qg af 0,Qg c 1,Qg c 0,
  Qg aB 3,Qg aB 2,Qg aB 1,Qg aB 0,Qg dst 3,Qg dst 2,Qg dst 1,Qg dst 0]++t:=by rw[← hc]
 clear_value f
 subst hf
 exact ⟨rfl,rfl,rP _ ae ae,rP _ h5.1 h5.2,rfl,xB _ h4.1 h4.2,xB _ h1.1 h1.2,Ib _ h2.1 h2.2,Ib _ h3.1 h3.2⟩
theorem Xef (p:Pk) (hr:Kk p) (hp:p.af=1∨p.af=6∨p.af=17) (hl:p.body.length≤64) (t:List UInt8) :
  let f:=Uw p.af p.aB p.dst p.av p.id (Xl p)++t
  b1 f 0=69∧b1 f 1=0∧w2 f 2=20 + Xl p∧w2 f 4=p.id∧w2 f 6=0∧b1 f 8=p.av∧b1 f 9=p.af∧w4 f 12=p.aB∧w4 f 16=p.dst:=by
 obtain ⟨r1,r2,r3,r4,r5,r6,r7,r8,r9,ic⟩:=hr
 have hN:=Kf p hp
 have tO:Xl p≤84:=by rw[hN];split<;>omega
 exact Xkp _ _ _ _ _ _ t ae r1 r2 ae r7 ae
theorem Xb0 (p:Pk) (h:Yo p=0):bZ (Xk p)=0∧az (Xk p)=p:=by
 obtain ⟨hp,hr,hl,hf⟩:=Wc h
 obtain ⟨g0,g1,g2,g4,g6,g8,g9,g12,g16⟩:=Xef p hr hp hl (js p)
 have hN:=Kf p hp
 have hB:=Xeu p
 have hT:=Xb5 p
 have hD:=Xav p
 have hO:=W6 p.af p.aB p.dst p.av p.id (Xl p)
 have hS:=Yal p
 have hK:=Yc1 p
 have N9:=W7 p
 change b1 (Xk p) 0=69 at g0
 change b1 (Xk p) 1=0 at g1
 change w2 (Xk p) 2=_ at g2
 change w2 (Xk p) 4=_ at g4
 change w2 (Xk p) 6=_ at g6
 change b1 (Xk p) 8=_ at g8
 change b1 (Xk p) 9=_ at g9
 change w4 (Xk p) 12=_ at g12
 change w4 (Xk p) 16=_ at g16
 generalize hF:Xk p=F at *
 have W8:=hr
 obtain ⟨r1,r2,r3,r4,r5,r6,r7,r8,r9,ic⟩:=hr
 have hKK:az F=p∧(p.af=1→b1 (js p) 1=0)∧(p.af=17→w2 (js p) 4=Xl p∧w2 (js p) 6≠0)∧(p.af=6→b1 (js p) 12=80∧b1 (js p) 13≤63∧w2 (js p) 18=0)∧(p.af=1→b1 (js p) 0=8∨b1 (js p) 0=0):=by
  unfold az lR
  rw[hD,g9,g12,g16,g8,g4]
  rcases p with ⟨af,aB,ai,dst,aj,av,id,flags,seq,aL,win,body⟩
  dsimp only at *
  unfold Wu at hf
  dsimp only at hf
  rcases hp with rfl|rfl|rfl
  ·obtain ⟨c,hc⟩:∃ c:Int,js ⟨1,aB,ai,dst,aj,av,id,flags,seq,aL,win,body⟩=[Qg flags 0,0,Qg c 1,Qg c 0,Qg (ai + aj) 1,Qg (ai + aj) 0,Qg seq 1,Qg seq 0]++body:=⟨_,rfl⟩
   rw[hc]
   have f1:aL=0∧win=0∧(flags=8∧aj=0∨flags=0∧ai=0)∧seq≤65535:=by omega
   obtain ⟨rfl,rfl,f2,f3⟩:=f1
   have e0:b1 ([Qg flags 0,0,Qg c 1,Qg c 0,Qg (ai + aj) 1,Qg (ai + aj) 0,Qg seq 1,Qg seq 0]++body) 0=flags:=xB _ ae ae
   have e1:w2 ([Qg flags 0,0,Qg c 1,Qg c 0,Qg (ai + aj) 1,Qg (ai + aj) 0,Qg seq 1,Qg seq 0]++body) 4=ai + aj:=rP _ ae ae
   have e2:w2 ([Qg flags 0,0,Qg c 1,Qg c 0,Qg (ai + aj) 1,Qg (ai + aj) 0,Qg seq 1,Qg seq 0]++body) 6=seq:=rP _ ae ae
   rw[e0,e1,e2]
   refine ⟨?_,fun _=>rfl,fun h=>by omega,fun h=>by omega,fun _=>by omega⟩
   rw[if_pos rfl]
   rcases f2 with ⟨rfl,rfl⟩|⟨rfl,rfl⟩<;>simp
  ·obtain ⟨c,hc⟩:∃ c:Int,js ⟨6,aB,ai,dst,aj,av,id,flags,seq,aL,win,body⟩=[Qg ai 1,Qg ai 0,Qg aj 1,Qg aj 0,Qg seq 3,Qg seq 2,Qg seq 1,Qg seq 0,Qg aL 3,Qg aL 2,Qg aL 1,Qg aL 0,80,Qg flags 0,Qg win 1,Qg win 0,Qg c 1,Qg c 0,0,0]++body:=⟨_,rfl⟩
   rw[hc]
   refine ⟨?_,fun h=>by omega,fun h=>by omega,fun _=>⟨rfl,?_,rfl⟩,fun h=>by omega⟩
   ·rw[if_neg aI,if_neg aI]
    have e1:∀ t:List UInt8,w2 ([Qg ai 1,Qg ai 0,Qg aj 1,Qg aj 0,Qg seq 3,Qg seq 2,Qg seq 1,Qg seq 0,Qg aL 3,Qg aL 2,Qg aL 1,Qg aL 0,80,Qg flags 0,Qg win 1,Qg win 0,Qg c 1,Qg c 0,0,0]++t) 0=ai:=fun t=>rP _ ae ae
    have e2:∀ t:List UInt8,w2 ([Qg ai 1,Qg ai 0,Qg aj 1,Qg aj 0,Qg seq 3,Qg seq 2,Qg seq 1,Qg seq 0,Qg aL 3,Qg aL 2,Qg aL 1,Qg aL 0,80,Qg flags 0,Qg win 1,Qg win 0,Qg c 1,Qg c 0,0,0]++t) 2=aj:=fun t=>rP _ ae ae
    have e3:∀ t:List UInt8,w4 ([Qg ai 1,Qg ai 0,Qg aj 1,Qg aj 0,Qg seq 3,Qg seq 2,Qg seq 1,Qg seq 0,Qg aL 3,Qg aL 2,Qg aL 1,Qg aL 0,80,Qg flags 0,Qg win 1,Qg win 0,Qg c 1,Qg c 0,0,0]++t) 4=seq:=fun t=>Ib _ ae ae
    have e4:∀ t:List UInt8,w4 ([Qg ai 1,Qg ai 0,Qg aj 1,Qg aj 0,Qg seq 3,Qg seq 2,Qg seq 1,Qg seq 0,Qg aL 3,Qg aL 2,Qg aL 1,Qg aL 0,80,Qg flags 0,Qg win 1,Qg win 0,Qg c 1,Qg c 0,0,0]++t) 8=aL:=fun t=>Ib _ ae ae
    have e5:∀ t:List UInt8,w2 ([Qg ai 1,Qg ai 0,Qg aj 1,Qg aj 0,Qg seq 3,Qg seq 2,Qg seq 1,Qg seq 0,Qg aL 3,Qg aL 2,Qg aL 1,Qg aL 0,80,Qg flags 0,Qg win 1,Qg win 0,Qg c 1,Qg c 0,0,0]++t) 14=win:=fun t=>rP _ ae ae
    have e6:∀ t:List UInt8,b1 ([Qg ai 1,Qg ai 0,Qg aj 1,Qg aj 0,Qg seq 3,Qg seq 2,Qg seq 1,Qg seq 0,Qg aL 3,Qg aL 2,Qg aL 1,Qg aL 0,80,Qg flags 0,Qg win 1,Qg win 0,Qg c 1,Qg c 0,0,0]++t) 13=flags:=fun t=>xB _ ae ae
    rw[e1,e2,e3,e4,e5,e6]
    rfl
   ·have:b1 ([Qg ai 1,Qg ai 0,Qg aj 1,Qg aj 0,Qg seq 3,Qg seq 2,Qg seq 1,Qg seq 0,Qg aL 3,Qg aL 2,Qg aL 1,Qg aL 0,80,Qg flags 0,Qg win 1,Qg win 0,Qg c 1,Qg c 0,0,0]++body) 13=flags:=xB _ ae ae
    rw[this];omega
  ·have hc:js ⟨17,aB,ai,dst,aj,av,id,flags,seq,aL,win,body⟩=[Qg ai 1,Qg ai 0,Qg aj 1,Qg aj 0,Qg (8 + body.length) 1,Qg (8 + body.length) 0,Qg (gQ ⟨17,aB,ai,dst,aj,av,id,flags,seq,aL,win,body⟩) 1,Qg (gQ ⟨17,aB,ai,dst,aj,av,id,flags,seq,aL,win,body⟩) 0]++body:=rfl
   have jy:gQ ⟨17,aB,ai,dst,aj,av,id,flags,seq,aL,win,body⟩≠0:=by
    unfold gQ;split
    ·decide
    ·rename_i hh
     intro h0;exact hh ⟨rfl,h0⟩
   rw[hc]
   generalize gQ ⟨17,aB,ai,dst,aj,av,id,flags,seq,aL,win,body⟩=c at *
   have f1:aL=0∧win=0∧seq=0∧flags=0:=by omega
   obtain ⟨rfl,rfl,rfl,rfl⟩:=f1
   refine ⟨?_,fun h=>by omega,fun _=>⟨?_,?_⟩,fun h=>by omega,fun h=>by omega⟩
   ·rw[if_neg aI,if_pos rfl]
    have e1:∀ t:List UInt8,w2 ([Qg ai 1,Qg ai 0,Qg aj 1,Qg aj 0,Qg (8 + body.length) 1,Qg (8 + body.length) 0,Qg c 1,Qg c 0]++t) 0=ai:=fun t=>rP _ ae ae
    have e2:∀ t:List UInt8,w2 ([Qg ai 1,Qg ai 0,Qg aj 1,Qg aj 0,Qg (8 + body.length) 1,Qg (8 + body.length) 0,Qg c 1,Qg c 0]++t) 2=aj:=fun t=>rP _ ae ae
    rw[e1,e2]
    rfl
   ·have e1:∀ t:List UInt8,w2 ([Qg ai 1,Qg ai 0,Qg aj 1,Qg aj 0,Qg (8 + body.length) 1,Qg (8 + body.length) 0,Qg c 1,Qg c 0]++t) 4=8 + body.length:=fun t=>rP _ ae ae
    rw[e1,hN]
    simp
   ·have e1:∀ t:List UInt8,w2 ([Qg ai 1,Qg ai 0,Qg aj 1,Qg aj 0,Qg (8 + body.length) 1,Qg (8 + body.length) 0,Qg c 1,Qg c 0]++t) 6=c:=fun t=>rP _ ae ae
    rw[e1];omega
 obtain ⟨k1,k2,k3,k4,k5⟩:=hKK
 refine ⟨?_,k1⟩
 unfold bZ
 rw[k1,h,hD,hT,g0,g1,g2,g6,g8,g9,g12,g16,hO]
 dsimp only
 rw[N9,hS]
 have hlen:F.length=20 + Xl p:=hB
 rw[if_neg ae,if_neg ae,if_neg ae,if_neg ae,if_neg ae]
 rw[if_neg (by rcases hp with h1|h1|h1<;>simp[h1]at hN ⊢<;>omega)]
 rw[if_neg (fun hh=>hh.elim (fun h1=>h1 rfl) fun h1=>(k3 h1.1).2 h1.2)]
 rw[if_neg (by rintro ⟨h1,h2⟩;have:=k2 h1;have:=k5 h1;omega)]
 rw[if_neg (by rintro ⟨h1,h2⟩;exact h2 (by rw[(k3 h1).1])),if_neg (by rintro ⟨h1,h2⟩;have:=k4 h1;omega)]
theorem Yd7 {f:List UInt8} (h:bZ f=0):cq (f.take 20)=65535∧cq (Yt (b1 f 9) (w4 f 12) (w4 f 16) (f.drop 20).length++f.drop 20)=65535:=by
 unfold bZ at h
 dsimp only at h
 generalize (if b1 f 9=6 then 20 else 8)=kk at h
 split at h
 ·cases h
 split at h
 ·cases h
 split at h
 ·cases h
 split at h
 ·cases h
 split at h
 ·cases h
 split at h
 ·cases h
 split at h
 ·cases h
 rename_i h1 h2 h3 h4 h5 h6 h7
 exact ⟨Decidable.not_not.1 h2,Decidable.not_not.1 fun hh=>h7 (Or.inl hh)⟩
theorem Xtm (f:List UInt8) (h:28≤f.length):(Ap f).length=36:=by simp[Ap,Qp];omega
theorem Xzq (f:List UInt8):cq (Ap f)=65535:=OG [3,13] _ (by decide)
theorem Xtc (f:List UInt8) (aB id:Int) (h:28≤f.length):(mJ f aB id).length=56:=by simp[mJ,Jh,Xtm f h]
theorem W9 (v:Int):cp [Qg v 1,Qg v 0]=v % 65536:=by
 have e1:(Qg v 1).toNat=((v / 256) % 256).toNat:=by
  rw[wL _ _ ae]
  simp only[UInt8.toNat_ofNat',Nat.reducePow,Int.pow_one]
  omega
 have e0:(Qg v 0).toNat=(v % 256).toNat:=by
  rw[wL _ _ ae]
  simp only[UInt8.toNat_ofNat',Nat.reducePow,Int.pow_zero,Int.ediv_one]
  omega
 rw[sZ _ au]
 simp only[iK]
 omega
theorem lK (t:List UInt8):∀ (ws:List Int) (k:Nat),k < ws.length→w2 (fr ws t) (2 * k)=ws.getD k 0 % 65536
 | [],_,h=>by simp at h
 | w::ws,0,_=>W9 w
 | w::ws,k + 1,h=>by
  have e:w2 (fr (w::ws) t) (2 * (k + 1))=w2 (fr ws t) (2 * k):=rfl
  rw[e,lK t ws k (by simpa using h)]
  simp
theorem u6 (t:List UInt8) (n:Int):∀ (ws:List Int) (k:Nat),k < ws.length→Wf (fr ws t) (2 * k) n=fr (ws.set k n) t
 | [],_,h=>by simp at h
 | w::ws,0,_=>rfl
 | w::ws,k + 1,h=>by
  have:=u6 t n ws k (by simpa using h)
  have e:Wf (fr (w::ws) t) (2 * (k + 1)) n=Qg w 1::Qg w 0::Wf (fr ws t) (2 * k) n:=rfl
  rw[e,this];rfl
theorem Xlw (c m n:Int):Qb (c % 65536) m n=Qb c m n:=by
 unfold Qb
 rw[Int.emod_emod_of_dvd _ (Int.dvd_refl _)]
theorem Xn4 (c m n:Int):Qb c (m % 65536) n=Qb c m n:=by
 unfold Qb
 rw[Int.emod_emod_of_dvd _ (Int.dvd_refl _)]
theorem u7 (ws:List Int) (t:List UInt8) (k:Nat) (m n:Int) (h:k < ws.length):Kh (fr ws t) (2 * k) m n=fr (ws.set k (Qb (ws.getD k 0) m n)) t:=by
 unfold Kh
 rw[lK t ws k h,Xlw,u6 _ _ _ _ h]
theorem Zg (ws:List Int) (t:List UInt8) (k c:Nat) (n:Int) (hk:k < ws.length) (hc:c < ws.length):Ql (fr ws t) (2 * k) (2 * c) n=fr ((ws.set c (Qb (ws.getD c 0) (ws.getD k 0) n)).set k n) t:=by
 unfold Ql
 rw[lK t ws k hk,u7 _ _ _ _ _ hc,Xn4,u6 _ _ _ _ (by simpa using hk)]
theorem yT (t:List UInt8):∀ (ws:List Int) (k:Nat),k≤ws.length→(fr ws t).drop (2 * k)=fr (ws.drop k) t
 | _,0,_=>rfl
 | [],k + 1,h=>by simp at h
 | w::ws,k + 1,h=>by
  have:=yT t ws k (by simpa using h)
  show (fr ws t).drop (2 * k)=_
  rw[this];rfl
def Qz:List Int→Int
 | []=>0
 | w::ws=>w % 65536 + Qz ws
theorem Ic:∀ ws,0≤Qz ws
 | []=>Int.le_refl _
 | w::ws=>by have:=Ic ws;simp only[Qz];omega
theorem wE (t:List UInt8):∀ ws:List Int,(Xh (fr ws t):Int)=Qz ws + Xh t
 | []=>by simp[fr,Qz]
 | w::ws=>by
  have ih:=wE t ws
  have hw:=W9 w
  rw[sZ _ au]at hw
  simp only[iK]at hw
  simp only[fr,Xh,Qz]
  omega
def cI (T:Int):Int:=65535 - (Jb T.toNat:Nat)
theorem sW (T:Int):0≤cI T∧cI T≤65535:=by
 unfold cI;have:=zf T.toNat;omega
theorem sX (T:Int) (h:0 < T):cI T≤65534∧(cI T + T) % 65535=0:=by
 unfold cI Jb;rw[if_neg ae];omega
theorem Ie:cI 0=65535:=rfl
theorem EO (c m n:Int) (hc:0≤c∧c≤65535) (hm:0≤m∧m≤65535) (hn:0≤n∧n≤65535):Qb c m n=cI (131070 - c - m + n):=by
 unfold Qb cI pj
 have h1:(((65535 - c % 65536) % 65536).toNat + ((65535 - m % 65536) % 65536).toNat)=(131070 - c - m).toNat:=by omega
 have h2:((Jb (131070 - c - m).toNat:Nat):Int) % 65536=(Jb (131070 - c - m).toNat:Nat):=by
  have:=zf (131070 - c - m).toNat;omega
 have h3:(n % 65536).toNat=n.toNat:=by omega
 rw[h1,h2,h3,Int.toNat_natCast,Iy,← Int.toNat_add ae ae]
theorem Ig (S T:Int) (hS:0 < S) (hT:0 < T) (h:(S - T) % 65535=0):cI S=cI T:=by
 have:=sX S hS;have:=sX T hT;have:=sW S;have:=sW T;omega
theorem OH (T m n:Int) (h0:0 < T) (hm:0≤m∧m≤65535) (hn:0≤n∧n≤65535) (hp:0 < T - m + n):Qb (cI T) m n=cI (T - m + n):=by
 have h1:=sX T h0;have h2:=sW T
 rw[EO _ _ _ h2 hm hn]
 exact Ig _ _ ae hp ae
def lL (c T:Int):Prop:=0≤c∧c≤65535∧(c + T) % 65535=0
theorem yU (c T m n:Int) (h:lL c T) (hm:0≤m∧m≤65535) (hn:0≤n∧n≤65535):lL (Qb c m n) (T - m + n):=by
 obtain ⟨h1,h2,h3⟩:=h
 have hb:=C5 c m n
 refine ⟨hb.1,hb.2,?_⟩
 rw[EO _ _ _ ⟨h1,h2⟩ hm hn]
 by_cases h0:131070 - c - m + n=0
 ·rw[h0,Ie];omega
 ·have:=sX (131070 - c - m + n) ae;omega
def gN (p:Pk) (n c:Int):List Int:=[17664,20 + n,p.id,0,p.av * 256 + p.af,c,p.aB / 65536,p.aB % 65536,p.dst / 65536,p.dst % 65536]
def jg (p:Pk) (c:Int):List Int :=
 if p.af=1 then [p.flags * 256,c,p.ai + p.aj,p.seq]
 else if p.af=17 then [p.ai,p.aj,8 + p.body.length,c]
 else [p.ai,p.aj,p.seq / 65536,p.seq % 65536,p.aL / 65536,p.aL % 65536,80 * 256 + p.flags,p.win,c,0]
theorem l8 (v:Int) (t:List UInt8):be v 2++t=fr [v] t:=rfl
theorem Bs (v w:Int) (k j:Nat) (hk:k≤8) (hj:j≤8) (h:v / 256 ^ k % 256=w / 256 ^ j % 256):Qg v k=Qg w j:=by
 rw[wL _ _ hk,wL _ _ hj,h]
theorem Bt (v:Int) (t:List UInt8):be v 4++t=fr [v / 65536,v % 65536] t:=by
 show Qg v 3::Qg v 2::Qg v 1::Qg v 0::t=Qg (v / 65536) 1::Qg (v / 65536) 0::Qg (v % 65536) 1::Qg (v % 65536) 0::t
 rw[Bs v (v / 65536) 3 1 ae ae ae,Bs v (v / 65536) 2 0 ae ae ae,Bs v (v % 65536) 1 1 ae ae ae,Bs v (v % 65536) 0 0 ae ae ae]
theorem OI (v w:Int) (hw:0≤w∧w < 256) (t:List UInt8):be v 1++(be w 1++t)=fr [v * 256 + w] t:=by
 show Qg v 0::Qg w 0::t=Qg (v * 256 + w) 1::Qg (v * 256 + w) 0::t
 rw[Bs v (v * 256 + w) 0 1 ae ae ae,Bs w (v * 256 + w) 0 0 ae ae ae]
theorem yV (a b:List Int) (t:List UInt8):fr a (fr b t)=fr (a++b) t:=by
 induction a with
 | nil=>rfl
 | cons w a ih=>simp only[List.cons_append,fr,ih]
theorem XA (p:Pk) (n c:Int) (hp:0≤p.af∧p.af < 256) (t:List UInt8):qC p.af p.av p.id n++be c 2++qD p.aB p.dst++t=fr (gN p n c) t:=by
 unfold qC qD
 have e0:∀ t,[(69:UInt8),0]++t=fr [17664] t:=fun t=>by
  show (69:UInt8)::0::t=Qg 17664 1::Qg 17664 0::t
  rw[show Qg 17664 1=69 by decide,show Qg 17664 0=0 by decide]
 have e1:∀ t,[(0:UInt8),0]++t=fr [0] t:=fun t=>by
  show (0:UInt8)::0::t=Qg 0 1::Qg 0 0::t
  rw[show Qg 0 1=0 by decide,show Qg 0 0=0 by decide]
 simp only[List.append_assoc]
 rw[Bt p.dst,Bt p.aB,l8 c,OI _ _ hp,e1,l8 p.id,l8 (20 + n),e0]
 simp only[yV]
 rfl
theorem XB (p:Pk) (hp:p.af=1∨p.af=6∨p.af=17) (hf:0≤p.flags∧p.flags < 256) (c:Int):Uf p++be c 2++jP p=fr (jg p c) p.body:=by
 unfold Uf jP jg
 rcases hp with h|h|h
 ·simp only[h,if_true]
  have e:∀ t,be p.flags 1++([0]++t)=fr [p.flags * 256] t:=fun t=>by
   have:=OI p.flags 0 ae t
   rw[Int.add_zero]at this
   rw[← this];rfl
  simp only[List.append_assoc]
  rw[l8 p.seq,l8 (p.ai + p.aj),l8 c,e]
  simp only[yV];rfl
 ·have h1:¬ p.af=1:=by omega
  have h2:¬ p.af=17:=by omega
  simp only[h1,h2,if_false]
  have e:∀ t,[80]++(be p.flags 1++t)=fr [80 * 256 + p.flags] t:=fun t=>by
   rw[← OI 80 p.flags hf t];rfl
  have e1:∀ t,[(0:UInt8),0]++t=fr [0] t:=fun t=>by
   show (0:UInt8)::0::t=Qg 0 1::Qg 0 0::t
   rw[show Qg 0 1=0 by decide,show Qg 0 0=0 by decide]
  simp only[List.append_assoc]
  rw[e1,l8 c,l8 p.win,e,Bt p.aL,Bt p.seq,l8 p.aj,l8 p.ai]
  simp only[yV];rfl
 ·have h1:¬ (17:Int)=1:=by omega
  simp only[h1,h,if_false,if_true]
  simp only[List.append_assoc]
  rw[l8 c,l8 (8 + (p.body.length:Int)),l8 p.aj,l8 p.ai]
  simp only[yV];rfl
theorem OK (h0 h1 h2 h3 h4 h5 h6 h7 h8 h9 s0 s1 s2 s3 av addr port:Int) (t:List UInt8):Yc (fr [h0,h1,h2,h3,h4,h5,h6,h7,h8,h9,s0,s1,s2,s3] t) 1 av 12 24 addr port=fr [h0,h1,h2,h3,((av - 1) * 256 + 1),(Qb (Qb (Qb h5 h6 (addr / 65536)) h7 (addr % 65536)) h4 ((av - 1) * 256 + 1)),(addr / 65536),(addr % 65536),h8,h9,s0,(if (Qb s1 s2 port) % 65536=0∧cq (fr [s0,(Qb s1 s2 port),port,s3] t)=0 then 65535 else (Qb s1 s2 port)),port,s3] t:=by
 have e0:Ql (fr [h0,h1,h2,h3,h4,h5,h6,h7,h8,h9,s0,s1,s2,s3] t) 12 10 (addr / 65536)=fr [h0,h1,h2,h3,h4,(Qb h5 h6 (addr / 65536)),(addr / 65536),h7,h8,h9,s0,s1,s2,s3] t:=Zg [h0,h1,h2,h3,h4,h5,h6,h7,h8,h9,s0,s1,s2,s3] t 6 5 (addr / 65536) au au
 have e1:Ql (fr [h0,h1,h2,h3,h4,(Qb h5 h6 (addr / 65536)),(addr / 65536),h7,h8,h9,s0,s1,s2,s3] t) 14 10 (addr % 65536)=fr [h0,h1,h2,h3,h4,(Qb (Qb h5 h6 (addr / 65536)) h7 (addr % 65536)),(addr / 65536),(addr % 65536),h8,h9,s0,s1,s2,s3] t:=Zg [h0,h1,h2,h3,h4,(Qb h5 h6 (addr / 65536)),(addr / 65536),h7,h8,h9,s0,s1,s2,s3] t 7 5 (addr % 65536) au au
 have e2:Ql (fr [h0,h1,h2,h3,h4,(Qb (Qb h5 h6 (addr / 65536)) h7 (addr % 65536)),(addr / 65536),(addr % 65536),h8,h9,s0,s1,s2,s3] t) 8 10 ((av - 1) * 256 + 1)=fr [h0,h1,h2,h3,((av - 1) * 256 + 1),(Qb (Qb (Qb h5 h6 (addr / 65536)) h7 (addr % 65536)) h4 ((av - 1) * 256 + 1)),(addr / 65536),(addr % 65536),h8,h9,s0,s1,s2,s3] t:=Zg [h0,h1,h2,h3,h4,(Qb (Qb h5 h6 (addr / 65536)) h7 (addr % 65536)),(addr / 65536),(addr % 65536),h8,h9,s0,s1,s2,s3] t 4 5 ((av - 1) * 256 + 1) au au
 have e3:Ql (fr [h0,h1,h2,h3,((av - 1) * 256 + 1),(Qb (Qb (Qb h5 h6 (addr / 65536)) h7 (addr % 65536)) h4 ((av - 1) * 256 + 1)),(addr / 65536),(addr % 65536),h8,h9,s0,s1,s2,s3] t) 24 22 port=fr [h0,h1,h2,h3,((av - 1) * 256 + 1),(Qb (Qb (Qb h5 h6 (addr / 65536)) h7 (addr % 65536)) h4 ((av - 1) * 256 + 1)),(addr / 65536),(addr % 65536),h8,h9,s0,(Qb s1 s2 port),port,s3] t:=Zg [h0,h1,h2,h3,((av - 1) * 256 + 1),(Qb (Qb (Qb h5 h6 (addr / 65536)) h7 (addr % 65536)) h4 ((av - 1) * 256 + 1)),(addr / 65536),(addr % 65536),h8,h9,s0,s1,s2,s3] t 12 11 port au au
 have e4:w2 (fr [h0,h1,h2,h3,((av - 1) * 256 + 1),(Qb (Qb (Qb h5 h6 (addr / 65536)) h7 (addr % 65536)) h4 ((av - 1) * 256 + 1)),(addr / 65536),(addr % 65536),h8,h9,s0,(Qb s1 s2 port),port,s3] t) 22=(Qb s1 s2 port) % 65536:=lK t [h0,h1,h2,h3,((av - 1) * 256 + 1),(Qb (Qb (Qb h5 h6 (addr / 65536)) h7 (addr % 65536)) h4 ((av - 1) * 256 + 1)),(addr / 65536),(addr % 65536),h8,h9,s0,(Qb s1 s2 port),port,s3] 11 au
 have e5:Wf (fr [h0,h1,h2,h3,((av - 1) * 256 + 1),(Qb (Qb (Qb h5 h6 (addr / 65536)) h7 (addr % 65536)) h4 ((av - 1) * 256 + 1)),(addr / 65536),(addr % 65536),h8,h9,s0,(Qb s1 s2 port),port,s3] t) 22 65535=fr [h0,h1,h2,h3,((av - 1) * 256 + 1),(Qb (Qb (Qb h5 h6 (addr / 65536)) h7 (addr % 65536)) h4 ((av - 1) * 256 + 1)),(addr / 65536),(addr % 65536),h8,h9,s0,65535,port,s3] t:=u6 t 65535 [h0,h1,h2,h3,((av - 1) * 256 + 1),(Qb (Qb (Qb h5 h6 (addr / 65536)) h7 (addr % 65536)) h4 ((av - 1) * 256 + 1)),(addr / 65536),(addr % 65536),h8,h9,s0,(Qb s1 s2 port),port,s3] 11 au
 have e6:(fr [h0,h1,h2,h3,((av - 1) * 256 + 1),(Qb (Qb (Qb h5 h6 (addr / 65536)) h7 (addr % 65536)) h4 ((av - 1) * 256 + 1)),(addr / 65536),(addr % 65536),h8,h9,s0,(Qb s1 s2 port),port,s3] t).drop 20=fr [s0,(Qb s1 s2 port),port,s3] t:=yT t [h0,h1,h2,h3,((av - 1) * 256 + 1),(Qb (Qb (Qb h5 h6 (addr / 65536)) h7 (addr % 65536)) h4 ((av - 1) * 256 + 1)),(addr / 65536),(addr % 65536),h8,h9,s0,(Qb s1 s2 port),port,s3] 10 au
 unfold Yc tl sB
 simp only[reduceCtorEq,Int.reduceEq,if_true,if_false,↓reduceIte,false_or,true_or,and_true,Nat.reduceAdd]
 simp only[e0,e1,e2,e3,e4,e5,e6]
 split<;>rfl
theorem OL (h0 h1 h2 h3 h4 h5 h6 h7 h8 h9 s0 s1 s2 s3 av addr port:Int) (t:List UInt8):Yc (fr [h0,h1,h2,h3,h4,h5,h6,h7,h8,h9,s0,s1,s2,s3] t) 1 av 16 24 addr port=fr [h0,h1,h2,h3,((av - 1) * 256 + 1),(Qb (Qb (Qb h5 h8 (addr / 65536)) h9 (addr % 65536)) h4 ((av - 1) * 256 + 1)),h6,h7,(addr / 65536),(addr % 65536),s0,(if (Qb s1 s2 port) % 65536=0∧cq (fr [s0,(Qb s1 s2 port),port,s3] t)=0 then 65535 else (Qb s1 s2 port)),port,s3] t:=by
 have e0:Ql (fr [h0,h1,h2,h3,h4,h5,h6,h7,h8,h9,s0,s1,s2,s3] t) 16 10 (addr / 65536)=fr [h0,h1,h2,h3,h4,(Qb h5 h8 (addr / 65536)),h6,h7,(addr / 65536),h9,s0,s1,s2,s3] t:=Zg [h0,h1,h2,h3,h4,h5,h6,h7,h8,h9,s0,s1,s2,s3] t 8 5 (addr / 65536) au au
 have e1:Ql (fr [h0,h1,h2,h3,h4,(Qb h5 h8 (addr / 65536)),h6,h7,(addr / 65536),h9,s0,s1,s2,s3] t) 18 10 (addr % 65536)=fr [h0,h1,h2,h3,h4,(Qb (Qb h5 h8 (addr / 65536)) h9 (addr % 65536)),h6,h7,(addr / 65536),(addr % 65536),s0,s1,s2,s3] t:=Zg [h0,h1,h2,h3,h4,(Qb h5 h8 (addr / 65536)),h6,h7,(addr / 65536),h9,s0,s1,s2,s3] t 9 5 (addr % 65536) au au
 have e2:Ql (fr [h0,h1,h2,h3,h4,(Qb (Qb h5 h8 (addr / 65536)) h9 (addr % 65536)),h6,h7,(addr / 65536),(addr % 65536),s0,s1,s2,s3] t) 8 10 ((av - 1) * 256 + 1)=fr [h0,h1,h2,h3,((av - 1) * 256 + 1),(Qb (Qb (Qb h5 h8 (addr / 65536)) h9 (addr % 65536)) h4 ((av - 1) * 256 + 1)),h6,h7,(addr / 65536),(addr % 65536),s0,s1,s2,s3] t:=Zg [h0,h1,h2,h3,h4,(Qb (Qb h5 h8 (addr / 65536)) h9 (addr % 65536)),h6,h7,(addr / 65536),(addr % 65536),s0,s1,s2,s3] t 4 5 ((av - 1) * 256 + 1) au au
 have e3:Ql (fr [h0,h1,h2,h3,((av - 1) * 256 + 1),(Qb (Qb (Qb h5 h8 (addr / 65536)) h9 (addr % 65536)) h4 ((av - 1) * 256 + 1)),h6,h7,(addr / 65536),(addr % 65536),s0,s1,s2,s3] t) 24 22 port=fr [h0,h1,h2,h3,((av - 1) * 256 + 1),(Qb (Qb (Qb h5 h8 (addr / 65536)) h9 (addr % 65536)) h4 ((av - 1) * 256 + 1)),h6,h7,(addr / 65536),(addr % 65536),s0,(Qb s1 s2 port),port,s3] t:=Zg [h0,h1,h2,h3,((av - 1) * 256 + 1),(Qb (Qb (Qb h5 h8 (addr / 65536)) h9 (addr % 65536)) h4 ((av - 1) * 256 + 1)),h6,h7,(addr / 65536),(addr % 65536),s0,s1,s2,s3] t 12 11 port au au
 have e4:w2 (fr [h0,h1,h2,h3,((av - 1) * 256 + 1),(Qb (Qb (Qb h5 h8 (addr / 65536)) h9 (addr % 65536)) h4 ((av - 1) * 256 + 1)),h6,h7,(addr / 65536),(addr % 65536),s0,(Qb s1 s2 port),port,s3] t) 22=(Qb s1 s2 port) % 65536:=lK t [h0,h1,h2,h3,((av - 1) * 256 + 1),(Qb (Qb (Qb h5 h8 (addr / 65536)) h9 (addr % 65536)) h4 ((av - 1) * 256 + 1)),h6,h7,(addr / 65536),(addr % 65536),s0,(Qb s1 s2 port),port,s3] 11 au
 have e5:Wf (fr [h0,h1,h2,h3,((av - 1) * 256 + 1),(Qb (Qb (Qb h5 h8 (addr / 65536)) h9 (addr % 65536)) h4 ((av - 1) * 256 + 1)),h6,h7,(addr / 65536),(addr % 65536),s0,(Qb s1 s2 port),port,s3] t) 22 65535=fr [h0,h1,h2,h3,((av - 1) * 256 + 1),(Qb (Qb (Qb h5 h8 (addr / 65536)) h9 (addr % 65536)) h4 ((av - 1) * 256 + 1)),h6,h7,(addr / 65536),(addr % 65536),s0,65535,port,s3] t:=u6 t 65535 [h0,h1,h2,h3,((av - 1) * 256 + 1),(Qb (Qb (Qb h5 h8 (addr / 65536)) h9 (addr % 65536)) h4 ((av - 1) * 256 + 1)),h6,h7,(addr / 65536),(addr % 65536),s0,(Qb s1 s2 port),port,s3] 11 au
 have e6:(fr [h0,h1,h2,h3,((av - 1) * 256 + 1),(Qb (Qb (Qb h5 h8 (addr / 65536)) h9 (addr % 65536)) h4 ((av - 1) * 256 + 1)),h6,h7,(addr / 65536),(addr % 65536),s0,(Qb s1 s2 port),port,s3] t).drop 20=fr [s0,(Qb s1 s2 port),port,s3] t:=yT t [h0,h1,h2,h3,((av - 1) * 256 + 1),(Qb (Qb (Qb h5 h8 (addr / 65536)) h9 (addr % 65536)) h4 ((av - 1) * 256 + 1)),h6,h7,(addr / 65536),(addr % 65536),s0,(Qb s1 s2 port),port,s3] 10 au
 unfold Yc tl sB
 simp only[reduceCtorEq,Int.reduceEq,if_true,if_false,↓reduceIte,false_or,true_or,and_true,Nat.reduceAdd]
 simp only[e0,e1,e2,e3,e4,e5,e6]
 split<;>rfl
theorem OM (h0 h1 h2 h3 h4 h5 h6 h7 h8 h9 s0 s1 s2 s3 av addr port:Int) (t:List UInt8):Yc (fr [h0,h1,h2,h3,h4,h5,h6,h7,h8,h9,s0,s1,s2,s3] t) 17 av 12 20 addr port=fr [h0,h1,h2,h3,((av - 1) * 256 + 17),(Qb (Qb (Qb h5 h6 (addr / 65536)) h7 (addr % 65536)) h4 ((av - 1) * 256 + 17)),(addr / 65536),(addr % 65536),h8,h9,port,s1,s2,(if (Qb (Qb (Qb s3 (h6 % 65536) (addr / 65536)) (h7 % 65536) (addr % 65536)) s0 port) % 65536=0 then 65535 else (Qb (Qb (Qb s3 (h6 % 65536) (addr / 65536)) (h7 % 65536) (addr % 65536)) s0 port))] t:=by
 have e0:w2 (fr [h0,h1,h2,h3,h4,h5,h6,h7,h8,h9,s0,s1,s2,s3] t) 12=h6 % 65536:=lK t [h0,h1,h2,h3,h4,h5,h6,h7,h8,h9,s0,s1,s2,s3] 6 au
 have e1:Ql (fr [h0,h1,h2,h3,h4,h5,h6,h7,h8,h9,s0,s1,s2,s3] t) 12 10 (addr / 65536)=fr [h0,h1,h2,h3,h4,(Qb h5 h6 (addr / 65536)),(addr / 65536),h7,h8,h9,s0,s1,s2,s3] t:=Zg [h0,h1,h2,h3,h4,h5,h6,h7,h8,h9,s0,s1,s2,s3] t 6 5 (addr / 65536) au au
 have e2:Kh (fr [h0,h1,h2,h3,h4,(Qb h5 h6 (addr / 65536)),(addr / 65536),h7,h8,h9,s0,s1,s2,s3] t) 26 (h6 % 65536) (addr / 65536)=fr [h0,h1,h2,h3,h4,(Qb h5 h6 (addr / 65536)),(addr / 65536),h7,h8,h9,s0,s1,s2,(Qb s3 (h6 % 65536) (addr / 65536))] t:=u7 [h0,h1,h2,h3,h4,(Qb h5 h6 (addr / 65536)),(addr / 65536),h7,h8,h9,s0,s1,s2,s3] t 13 (h6 % 65536) (addr / 65536) au
 have e3:w2 (fr [h0,h1,h2,h3,h4,(Qb h5 h6 (addr / 65536)),(addr / 65536),h7,h8,h9,s0,s1,s2,(Qb s3 (h6 % 65536) (addr / 65536))] t) 14=h7 % 65536:=lK t [h0,h1,h2,h3,h4,(Qb h5 h6 (addr / 65536)),(addr / 65536),h7,h8,h9,s0,s1,s2,(Qb s3 (h6 % 65536) (addr / 65536))] 7 au
 have e4:Ql (fr [h0,h1,h2,h3,h4,(Qb h5 h6 (addr / 65536)),(addr / 65536),h7,h8,h9,s0,s1,s2,(Qb s3 (h6 % 65536) (addr / 65536))] t) 14 10 (addr % 65536)=fr [h0,h1,h2,h3,h4,(Qb (Qb h5 h6 (addr / 65536)) h7 (addr % 65536)),(addr / 65536),(addr % 65536),h8,h9,s0,s1,s2,(Qb s3 (h6 % 65536) (addr / 65536))] t:=Zg [h0,h1,h2,h3,h4,(Qb h5 h6 (addr / 65536)),(addr / 65536),h7,h8,h9,s0,s1,s2,(Qb s3 (h6 % 65536) (addr / 65536))] t 7 5 (addr % 65536) au au
 have e5:Kh (fr [h0,h1,h2,h3,h4,(Qb (Qb h5 h6 (addr / 65536)) h7 (addr % 65536)),(addr / 65536),(addr % 65536),h8,h9,s0,s1,s2,(Qb s3 (h6 % 65536) (addr / 65536))] t) 26 (h7 % 65536) (addr % 65536)=fr [h0,h1,h2,h3,h4,(Qb (Qb h5 h6 (addr / 65536)) h7 (addr % 65536)),(addr / 65536),(addr % 65536),h8,h9,s0,s1,s2,(Qb (Qb s3 (h6 % 65536) (addr / 65536)) (h7 % 65536) (addr % 65536))] t:=u7 [h0,h1,h2,h3,h4,(Qb (Qb h5 h6 (addr / 65536)) h7 (addr % 65536)),(addr / 65536),(addr % 65536),h8,h9,s0,s1,s2,(Qb s3 (h6 % 65536) (addr / 65536))] t 13 (h7 % 65536) (addr % 65536) au
 have e6:Ql (fr [h0,h1,h2,h3,h4,(Qb (Qb h5 h6 (addr / 65536)) h7 (addr % 65536)),(addr / 65536),(addr % 65536),h8,h9,s0,s1,s2,(Qb (Qb s3 (h6 % 65536) (addr / 65536)) (h7 % 65536) (addr % 65536))] t) 8 10 ((av - 1) * 256 + 17)=fr [h0,h1,h2,h3,((av - 1) * 256 + 17),(Qb (Qb (Qb h5 h6 (addr / 65536)) h7 (addr % 65536)) h4 ((av - 1) * 256 + 17)),(addr / 65536),(addr % 65536),h8,h9,s0,s1,s2,(Qb (Qb s3 (h6 % 65536) (addr / 65536)) (h7 % 65536) (addr % 65536))] t:=Zg [h0,h1,h2,h3,h4,(Qb (Qb h5 h6 (addr / 65536)) h7 (addr % 65536)),(addr / 65536),(addr % 65536),h8,h9,s0,s1,s2,(Qb (Qb s3 (h6 % 65536) (addr / 65536)) (h7 % 65536) (addr % 65536))] t 4 5 ((av - 1) * 256 + 17) au au
 have e7:Ql (fr [h0,h1,h2,h3,((av - 1) * 256 + 17),(Qb (Qb (Qb h5 h6 (addr / 65536)) h7 (addr % 65536)) h4 ((av - 1) * 256 + 17)),(addr / 65536),(addr % 65536),h8,h9,s0,s1,s2,(Qb (Qb s3 (h6 % 65536) (addr / 65536)) (h7 % 65536) (addr % 65536))] t) 20 26 port=fr [h0,h1,h2,h3,((av - 1) * 256 + 17),(Qb (Qb (Qb h5 h6 (addr / 65536)) h7 (addr % 65536)) h4 ((av - 1) * 256 + 17)),(addr / 65536),(addr % 65536),h8,h9,port,s1,s2,(Qb (Qb (Qb s3 (h6 % 65536) (addr / 65536)) (h7 % 65536) (addr % 65536)) s0 port)] t:=Zg [h0,h1,h2,h3,((av - 1) * 256 + 17),(Qb (Qb (Qb h5 h6 (addr / 65536)) h7 (addr % 65536)) h4 ((av - 1) * 256 + 17)),(addr / 65536),(addr % 65536),h8,h9,s0,s1,s2,(Qb (Qb s3 (h6 % 65536) (addr / 65536)) (h7 % 65536) (addr % 65536))] t 10 13 port au au
 have e8:w2 (fr [h0,h1,h2,h3,((av - 1) * 256 + 17),(Qb (Qb (Qb h5 h6 (addr / 65536)) h7 (addr % 65536)) h4 ((av - 1) * 256 + 17)),(addr / 65536),(addr % 65536),h8,h9,port,s1,s2,(Qb (Qb (Qb s3 (h6 % 65536) (addr / 65536)) (h7 % 65536) (addr % 65536)) s0 port)] t) 26=(Qb (Qb (Qb s3 (h6 % 65536) (addr / 65536)) (h7 % 65536) (addr % 65536)) s0 port) % 65536:=lK t [h0,h1,h2,h3,((av - 1) * 256 + 17),(Qb (Qb (Qb h5 h6 (addr / 65536)) h7 (addr % 65536)) h4 ((av - 1) * 256 + 17)),(addr / 65536),(addr % 65536),h8,h9,port,s1,s2,(Qb (Qb (Qb s3 (h6 % 65536) (addr / 65536)) (h7 % 65536) (addr % 65536)) s0 port)] 13 au
 have e9:Wf (fr [h0,h1,h2,h3,((av - 1) * 256 + 17),(Qb (Qb (Qb h5 h6 (addr / 65536)) h7 (addr % 65536)) h4 ((av - 1) * 256 + 17)),(addr / 65536),(addr % 65536),h8,h9,port,s1,s2,(Qb (Qb (Qb s3 (h6 % 65536) (addr / 65536)) (h7 % 65536) (addr % 65536)) s0 port)] t) 26 65535=fr [h0,h1,h2,h3,((av - 1) * 256 + 17),(Qb (Qb (Qb h5 h6 (addr / 65536)) h7 (addr % 65536)) h4 ((av - 1) * 256 + 17)),(addr / 65536),(addr % 65536),h8,h9,port,s1,s2,65535] t:=u6 t 65535 [h0,h1,h2,h3,((av - 1) * 256 + 17),(Qb (Qb (Qb h5 h6 (addr / 65536)) h7 (addr % 65536)) h4 ((av - 1) * 256 + 17)),(addr / 65536),(addr % 65536),h8,h9,port,s1,s2,(Qb (Qb (Qb s3 (h6 % 65536) (addr / 65536)) (h7 % 65536) (addr % 65536)) s0 port)] 13 au
 have yW:(fr [h0,h1,h2,h3,((av - 1) * 256 + 17),(Qb (Qb (Qb h5 h6 (addr / 65536)) h7 (addr % 65536)) h4 ((av - 1) * 256 + 17)),(addr / 65536),(addr % 65536),h8,h9,port,s1,s2,(Qb (Qb (Qb s3 (h6 % 65536) (addr / 65536)) (h7 % 65536) (addr % 65536)) s0 port)] t).drop 20=fr [port,s1,s2,(Qb (Qb (Qb s3 (h6 % 65536) (addr / 65536)) (h7 % 65536) (addr % 65536)) s0 port)] t:=yT t [h0,h1,h2,h3,((av - 1) * 256 + 17),(Qb (Qb (Qb h5 h6 (addr / 65536)) h7 (addr % 65536)) h4 ((av - 1) * 256 + 17)),(addr / 65536),(addr % 65536),h8,h9,port,s1,s2,(Qb (Qb (Qb s3 (h6 % 65536) (addr / 65536)) (h7 % 65536) (addr % 65536)) s0 port)] 10 au
 unfold Yc tl sB
 simp only[reduceCtorEq,Int.reduceEq,if_true,if_false,↓reduceIte,false_or,true_or,and_true,Nat.reduceAdd]
 simp only[e0,e1,e2,e3,e4,e5,e6,e7,e8,e9,yW]
 split<;>rfl
theorem ON (h0 h1 h2 h3 h4 h5 h6 h7 h8 h9 s0 s1 s2 s3 av addr port:Int) (t:List UInt8):Yc (fr [h0,h1,h2,h3,h4,h5,h6,h7,h8,h9,s0,s1,s2,s3] t) 17 av 16 22 addr port=fr [h0,h1,h2,h3,((av - 1) * 256 + 17),(Qb (Qb (Qb h5 h8 (addr / 65536)) h9 (addr % 65536)) h4 ((av - 1) * 256 + 17)),h6,h7,(addr / 65536),(addr % 65536),s0,port,s2,(if (Qb (Qb (Qb s3 (h8 % 65536) (addr / 65536)) (h9 % 65536) (addr % 65536)) s1 port) % 65536=0 then 65535 else (Qb (Qb (Qb s3 (h8 % 65536) (addr / 65536)) (h9 % 65536) (addr % 65536)) s1 port))] t:=by
 have e0:w2 (fr [h0,h1,h2,h3,h4,h5,h6,h7,h8,h9,s0,s1,s2,s3] t) 16=h8 % 65536:=lK t [h0,h1,h2,h3,h4,h5,h6,h7,h8,h9,s0,s1,s2,s3] 8 au
 have e1:Ql (fr [h0,h1,h2,h3,h4,h5,h6,h7,h8,h9,s0,s1,s2,s3] t) 16 10 (addr / 65536)=fr [h0,h1,h2,h3,h4,(Qb h5 h8 (addr / 65536)),h6,h7,(addr / 65536),h9,s0,s1,s2,s3] t:=Zg [h0,h1,h2,h3,h4,h5,h6,h7,h8,h9,s0,s1,s2,s3] t 8 5 (addr / 65536) au au
 have e2:Kh (fr [h0,h1,h2,h3,h4,(Qb h5 h8 (addr / 65536)),h6,h7,(addr / 65536),h9,s0,s1,s2,s3] t) 26 (h8 % 65536) (addr / 65536)=fr [h0,h1,h2,h3,h4,(Qb h5 h8 (addr / 65536)),h6,h7,(addr / 65536),h9,s0,s1,s2,(Qb s3 (h8 % 65536) (addr / 65536))] t:=u7 [h0,h1,h2,h3,h4,(Qb h5 h8 (addr / 65536)),h6,h7,(addr / 65536),h9,s0,s1,s2,s3] t 13 (h8 % 65536) (addr / 65536) au
 have e3:w2 (fr [h0,h1,h2,h3,h4,(Qb h5 h8 (addr / 65536)),h6,h7,(addr / 65536),h9,s0,s1,s2,(Qb s3 (h8 % 65536) (addr / 65536))] t) 18=h9 % 65536:=lK t [h0,h1,h2,h3,h4,(Qb h5 h8 (addr / 65536)),h6,h7,(addr / 65536),h9,s0,s1,s2,(Qb s3 (h8 % 65536) (addr / 65536))] 9 au
 have e4:Ql (fr [h0,h1,h2,h3,h4,(Qb h5 h8 (addr / 65536)),h6,h7,(addr / 65536),h9,s0,s1,s2,(Qb s3 (h8 % 65536) (addr / 65536))] t) 18 10 (addr % 65536)=fr [h0,h1,h2,h3,h4,(Qb (Qb h5 h8 (addr / 65536)) h9 (addr % 65536)),h6,h7,(addr / 65536),(addr % 65536),s0,s1,s2,(Qb s3 (h8 % 65536) (addr / 65536))] t:=Zg [h0,h1,h2,h3,h4,(Qb h5 h8 (addr / 65536)),h6,h7,(addr / 65536),h9,s0,s1,s2,(Qb s3 (h8 % 65536) (addr / 65536))] t 9 5 (addr % 65536) au au
 have e5:Kh (fr [h0,h1,h2,h3,h4,(Qb (Qb h5 h8 (addr / 65536)) h9 (addr % 65536)),h6,h7,(addr / 65536),(addr % 65536),s0,s1,s2,(Qb s3 (h8 % 65536) (addr / 65536))] t) 26 (h9 % 65536) (addr % 65536)=fr [h0,h1,h2,h3,h4,(Qb (Qb h5 h8 (addr / 65536)) h9 (addr % 65536)),h6,h7,(addr / 65536),(addr % 65536),s0,s1,s2,(Qb (Qb s3 (h8 % 65536) (addr / 65536)) (h9 % 65536) (addr % 65536))] t:=u7 [h0,h1,h2,h3,h4,(Qb (Qb h5 h8 (addr / 65536)) h9 (addr % 65536)),h6,h7,(addr / 65536),(addr % 65536),s0,s1,s2,(Qb s3 (h8 % 65536) (addr / 65536))] t 13 (h9 % 65536) (addr % 65536) au
 have e6:Ql (fr [h0,h1,h2,h3,h4,(Qb (Qb h5 h8 (addr / 65536)) h9 (addr % 65536)),h6,h7,(addr / 65536),(addr % 65536),s0,s1,s2,(Qb (Qb s3 (h8 % 65536) (addr / 65536)) (h9 % 65536) (addr % 65536))] t) 8 10 ((av - 1) * 256 + 17)=fr [h0,h1,h2,h3,((av - 1) * 256 + 17),(Qb (Qb (Qb h5 h8 (addr / 65536)) h9 (addr % 65536)) h4 ((av - 1) * 256 + 17)),h6,h7,(addr / 65536),(addr % 65536),s0,s1,s2,(Qb (Qb s3 (h8 % 65536) (addr / 65536)) (h9 % 65536) (addr % 65536))] t:=Zg [h0,h1,h2,h3,h4,(Qb (Qb h5 h8 (addr / 65536)) h9 (addr % 65536)),h6,h7,(addr / 65536),(addr % 65536),s0,s1,s2,(Qb (Qb s3 (h8 % 65536) (addr / 65536)) (h9 % 65536) (addr % 65536))] t 4 5 ((av - 1) * 256 + 17) au au
 have e7:Ql (fr [h0,h1,h2,h3,((av - 1) * 256 + 17),(Qb (Qb (Qb h5 h8 (addr / 65536)) h9 (addr % 65536)) h4 ((av - 1) * 256 + 17)),h6,h7,(addr / 65536),(addr % 65536),s0,s1,s2,(Qb (Qb s3 (h8 % 65536) (addr / 65536)) (h9 % 65536) (addr % 65536))] t) 22 26 port=fr [h0,h1,h2,h3,((av - 1) * 256 + 17),(Qb (Qb (Qb h5 h8 (addr / 65536)) h9 (addr % 65536)) h4 ((av - 1) * 256 + 17)),h6,h7,(addr / 65536),(addr % 65536),s0,port,s2,(Qb (Qb (Qb s3 (h8 % 65536) (addr / 65536)) (h9 % 65536) (addr % 65536)) s1 port)] t:=Zg [h0,h1,h2,h3,((av - 1) * 256 + 17),(Qb (Qb (Qb h5 h8 (addr / 65536)) h9 (addr % 65536)) h4 ((av - 1) * 256 + 17)),h6,h7,(addr / 65536),(addr % 65536),s0,s1,s2,(Qb (Qb s3 (h8 % 65536) (addr / 65536)) (h9 % 65536) (addr % 65536))] t 11 13 port au au
 have e8:w2 (fr [h0,h1,h2,h3,((av - 1) * 256 + 17),(Qb (Qb (Qb h5 h8 (addr / 65536)) h9 (addr % 65536)) h4 ((av - 1) * 256 + 17)),h6,h7,(addr / 65536),(addr % 65536),s0,port,s2,(Qb (Qb (Qb s3 (h8 % 65536) (addr / 65536)) (h9 % 65536) (addr % 65536)) s1 port)] t) 26=(Qb (Qb (Qb s3 (h8 % 65536) (addr / 65536)) (h9 % 65536) (addr % 65536)) s1 port) % 65536:=lK t [h0,h1,h2,h3,((av - 1) * 256 + 17),(Qb (Qb (Qb h5 h8 (addr / 65536)) h9 (addr % 65536)) h4 ((av - 1) * 256 + 17)),h6,h7,(addr / 65536),(addr % 65536),s0,port,s2,(Qb (Qb (Qb s3 (h8 % 65536) (addr / 65536)) (h9 % 65536) (addr % 65536)) s1 port)] 13 au
 have e9:Wf (fr [h0,h1,h2,h3,((av - 1) * 256 + 17),(Qb (Qb (Qb h5 h8 (addr / 65536)) h9 (addr % 65536)) h4 ((av - 1) * 256 + 17)),h6,h7,(addr / 65536),(addr % 65536),s0,port,s2,(Qb (Qb (Qb s3 (h8 % 65536) (addr / 65536)) (h9 % 65536) (addr % 65536)) s1 port)] t) 26 65535=fr [h0,h1,h2,h3,((av - 1) * 256 + 17),(Qb (Qb (Qb h5 h8 (addr / 65536)) h9 (addr % 65536)) h4 ((av - 1) * 256 + 17)),h6,h7,(addr / 65536),(addr % 65536),s0,port,s2,65535] t:=u6 t 65535 [h0,h1,h2,h3,((av - 1) * 256 + 17),(Qb (Qb (Qb h5 h8 (addr / 65536)) h9 (addr % 65536)) h4 ((av - 1) * 256 + 17)),h6,h7,(addr / 65536),(addr % 65536),s0,port,s2,(Qb (Qb (Qb s3 (h8 % 65536) (addr / 65536)) (h9 % 65536) (addr % 65536)) s1 port)] 13 au
 have yW:(fr [h0,h1,h2,h3,((av - 1) * 256 + 17),(Qb (Qb (Qb h5 h8 (addr / 65536)) h9 (addr % 65536)) h4 ((av - 1) * 256 + 17)),h6,h7,(addr / 65536),(addr % 65536),s0,port,s2,(Qb (Qb (Qb s3 (h8 % 65536) (addr / 65536)) (h9 % 65536) (addr % 65536)) s1 port)] t).drop 20=fr [s0,port,s2,(Qb (Qb (Qb s3 (h8 % 65536) (addr / 65536)) (h9 % 65536) (addr % 65536)) s1 port)] t:=yT t [h0,h1,h2,h3,((av - 1) * 256 + 17),(Qb (Qb (Qb h5 h8 (addr / 65536)) h9 (addr % 65536)) h4 ((av - 1) * 256 + 17)),h6,h7,(addr / 65536),(addr % 65536),s0,port,s2,(Qb (Qb (Qb s3 (h8 % 65536) (addr / 65536)) (h9 % 65536) (addr % 65536)) s1 port)] 10 au
 unfold Yc tl sB
 simp only[reduceCtorEq,Int.reduceEq,if_true,if_false,↓reduceIte,false_or,true_or,and_true,Nat.reduceAdd]
 simp only[e0,e1,e2,e3,e4,e5,e6,e7,e8,e9,yW]
 split<;>rfl
theorem OO (h0 h1 h2 h3 h4 h5 h6 h7 h8 h9 s0 s1 s2 s3 s4 s5 s6 s7 s8 s9 av addr port:Int) (t:List UInt8):Yc (fr [h0,h1,h2,h3,h4,h5,h6,h7,h8,h9,s0,s1,s2,s3,s4,s5,s6,s7,s8,s9] t) 6 av 12 20 addr port=fr [h0,h1,h2,h3,((av - 1) * 256 + 6),(Qb (Qb (Qb h5 h6 (addr / 65536)) h7 (addr % 65536)) h4 ((av - 1) * 256 + 6)),(addr / 65536),(addr % 65536),h8,h9,port,s1,s2,s3,s4,s5,s6,s7,(if (Qb (Qb (Qb s8 (h6 % 65536) (addr / 65536)) (h7 % 65536) (addr % 65536)) s0 port) % 65536=0∧cq (fr [port,s1,s2,s3,s4,s5,s6,s7,(Qb (Qb (Qb s8 (h6 % 65536) (addr / 65536)) (h7 % 65536) (addr % 65536)) s0 port),s9] t)=0 then 65535 else (Qb (Qb (Qb s8 (h6 % 65536) (addr / 65536)) (h7 % 65536) (addr % 65536)) s0 port)),s9] t:=by
 have e0:w2 (fr [h0,h1,h2,h3,h4,h5,h6,h7,h8,h9,s0,s1,s2,s3,s4,s5,s6,s7,s8,s9] t) 12=h6 % 65536:=lK t [h0,h1,h2,h3,h4,h5,h6,h7,h8,h9,s0,s1,s2,s3,s4,s5,s6,s7,s8,s9] 6 au
 have e1:Ql (fr [h0,h1,h2,h3,h4,h5,h6,h7,h8,h9,s0,s1,s2,s3,s4,s5,s6,s7,s8,s9] t) 12 10 (addr / 65536)=fr [h0,h1,h2,h3,h4,(Qb h5 h6 (addr / 65536)),(addr / 65536),h7,h8,h9,s0,s1,s2,s3,s4,s5,s6,s7,s8,s9] t:=Zg [h0,h1,h2,h3,h4,h5,h6,h7,h8,h9,s0,s1,s2,s3,s4,s5,s6,s7,s8,s9] t 6 5 (addr / 65536) au au
 have e2:Kh (fr [h0,h1,h2,h3,h4,(Qb h5 h6 (addr / 65536)),(addr / 65536),h7,h8,h9,s0,s1,s2,s3,s4,s5,s6,s7,s8,s9] t) 36 (h6 % 65536) (addr / 65536)=fr [h0,h1,h2,h3,h4,(Qb h5 h6 (addr / 65536)),(addr / 65536),h7,h8,h9,s0,s1,s2,s3,s4,s5,s6,s7,(Qb s8 (h6 % 65536) (addr / 65536)),s9] t:=u7 [h0,h1,h2,h3,h4,(Qb h5 h6 (addr / 65536)),(addr / 65536),h7,h8,h9,s0,s1,s2,s3,s4,s5,s6,s7,s8,s9] t 18 (h6 % 65536) (addr / 65536) au
 have e3:w2 (fr [h0,h1,h2,h3,h4,(Qb h5 h6 (addr / 65536)),(addr / 65536),h7,h8,h9,s0,s1,s2,s3,s4,s5,s6,s7,(Qb s8 (h6 % 65536) (addr / 65536)),s9] t) 14=h7 % 65536:=lK t [h0,h1,h2,h3,h4,(Qb h5 h6 (addr / 65536)),(addr / 65536),h7,h8,h9,s0,s1,s2,s3,s4,s5,s6,s7,(Qb s8 (h6 % 65536) (addr / 65536)),s9] 7 au
 have e4:Ql (fr [h0,h1,h2,h3,h4,(Qb h5 h6 (addr / 65536)),(addr / 65536),h7,h8,h9,s0,s1,s2,s3,s4,s5,s6,s7,(Qb s8 (h6 % 65536) (addr / 65536)),s9] t) 14 10 (addr % 65536)=fr [h0,h1,h2,h3,h4,(Qb (Qb h5 h6 (addr / 65536)) h7 (addr % 65536)),(addr / 65536),(addr % 65536),h8,h9,s0,s1,s2,s3,s4,s5,s6,s7,(Qb s8 (h6 % 65536) (addr / 65536)),s9] t:=Zg [h0,h1,h2,h3,h4,(Qb h5 h6 (addr / 65536)),(addr / 65536),h7,h8,h9,s0,s1,s2,s3,s4,s5,s6,s7,(Qb s8 (h6 % 65536) (addr / 65536)),s9] t 7 5 (addr % 65536) au au
 have e5:Kh (fr [h0,h1,h2,h3,h4,(Qb (Qb h5 h6 (addr / 65536)) h7 (addr % 65536)),(addr / 65536),(addr % 65536),h8,h9,s0,s1,s2,s3,s4,s5,s6,s7,(Qb s8 (h6 % 65536) (addr / 65536)),s9] t) 36 (h7 % 65536) (addr % 65536)=fr [h0,h1,h2,h3,h4,(Qb (Qb h5 h6 (addr / 65536)) h7 (addr % 65536)),(addr / 65536),(addr % 65536),h8,h9,s0,s1,s2,s3,s4,s5,s6,s7,(Qb (Qb s8 (h6 % 65536) (addr / 65536)) (h7 % 65536) (addr % 65536)),s9] t:=u7 [h0,h1,h2,h3,h4,(Qb (Qb h5 h6 (addr / 65536)) h7 (addr % 65536)),(addr / 65536),(addr % 65536),h8,h9,s0,s1,s2,s3,s4,s5,s6,s7,(Qb s8 (h6 % 65536) (addr / 65536)),s9] t 18 (h7 % 65536) (addr % 65536) au
 have e6:Ql (fr [h0,h1,h2,h3,h4,(Qb (Qb h5 h6 (addr / 65536)) h7 (addr % 65536)),(addr / 65536),(addr % 65536),h8,h9,s0,s1,s2,s3,s4,s5,s6,s7,(Qb (Qb s8 (h6 % 65536) (addr / 65536)) (h7 % 65536) (addr % 65536)),s9] t) 8 10 ((av - 1) * 256 + 6)=fr [h0,h1,h2,h3,((av - 1) * 256 + 6),(Qb (Qb (Qb h5 h6 (addr / 65536)) h7 (addr % 65536)) h4 ((av - 1) * 256 + 6)),(addr / 65536),(addr % 65536),h8,h9,s0,s1,s2,s3,s4,s5,s6,s7,(Qb (Qb s8 (h6 % 65536) (addr / 65536)) (h7 % 65536) (addr % 65536)),s9] t:=Zg [h0,h1,h2,h3,h4,(Qb (Qb h5 h6 (addr / 65536)) h7 (addr % 65536)),(addr / 65536),(addr % 65536),h8,h9,s0,s1,s2,s3,s4,s5,s6,s7,(Qb (Qb s8 (h6 % 65536) (addr / 65536)) (h7 % 65536) (addr % 65536)),s9] t 4 5 ((av - 1) * 256 + 6) au au
 have e7:Ql (fr [h0,h1,h2,h3,((av - 1) * 256 + 6),(Qb (Qb (Qb h5 h6 (addr / 65536)) h7 (addr % 65536)) h4 ((av - 1) * 256 + 6)),(addr / 65536),(addr % 65536),h8,h9,s0,s1,s2,s3,s4,s5,s6,s7,(Qb (Qb s8 (h6 % 65536) (addr / 65536)) (h7 % 65536) (addr % 65536)),s9] t) 20 36 port=fr [h0,h1,h2,h3,((av - 1) * 256 + 6),(Qb (Qb (Qb h5 h6 (addr / 65536)) h7 (addr % 65536)) h4 ((av - 1) * 256 + 6)),(addr / 65536),(addr % 65536),h8,h9,port,s1,s2,s3,s4,s5,s6,s7,(Qb (Qb (Qb s8 (h6 % 65536) (addr / 65536)) (h7 % 65536) (addr % 65536)) s0 port),s9] t:=Zg [h0,h1,h2,h3,((av - 1) * 256 + 6),(Qb (Qb (Qb h5 h6 (addr / 65536)) h7 (addr % 65536)) h4 ((av - 1) * 256 + 6)),(addr / 65536),(addr % 65536),h8,h9,s0,s1,s2,s3,s4,s5,s6,s7,(Qb (Qb s8 (h6 % 65536) (addr / 65536)) (h7 % 65536) (addr % 65536)),s9] t 10 18 port au au
 have e8:w2 (fr [h0,h1,h2,h3,((av - 1) * 256 + 6),(Qb (Qb (Qb h5 h6 (addr / 65536)) h7 (addr % 65536)) h4 ((av - 1) * 256 + 6)),(addr / 65536),(addr % 65536),h8,h9,port,s1,s2,s3,s4,s5,s6,s7,(Qb (Qb (Qb s8 (h6 % 65536) (addr / 65536)) (h7 % 65536) (addr % 65536)) s0 port),s9] t) 36=(Qb (Qb (Qb s8 (h6 % 65536) (addr / 65536)) (h7 % 65536) (addr % 65536)) s0 port) % 65536:=lK t [h0,h1,h2,h3,((av - 1) * 256 + 6),(Qb (Qb (Qb h5 h6 (addr / 65536)) h7 (addr % 65536)) h4 ((av - 1) * 256 + 6)),(addr / 65536),(addr % 65536),h8,h9,port,s1,s2,s3,s4,s5,s6,s7,(Qb (Qb (Qb s8 (h6 % 65536) (addr / 65536)) (h7 % 65536) (addr % 65536)) s0 port),s9] 18 au
 have e9:Wf (fr [h0,h1,h2,h3,((av - 1) * 256 + 6),(Qb (Qb (Qb h5 h6 (addr / 65536)) h7 (addr % 65536)) h4 ((av - 1) * 256 + 6)),(addr / 65536),(addr % 65536),h8,h9,port,s1,s2,s3,s4,s5,s6,s7,(Qb (Qb (Qb s8 (h6 % 65536) (addr / 65536)) (h7 % 65536) (addr % 65536)) s0 port),s9] t) 36 65535=fr [h0,h1,h2,h3,((av - 1) * 256 + 6),(Qb (Qb (Qb h5 h6 (addr / 65536)) h7 (addr % 65536)) h4 ((av - 1) * 256 + 6)),(addr / 65536),(addr % 65536),h8,h9,port,s1,s2,s3,s4,s5,s6,s7,65535,s9] t:=u6 t 65535 [h0,h1,h2,h3,((av - 1) * 256 + 6),(Qb (Qb (Qb h5 h6 (addr / 65536)) h7 (addr % 65536)) h4 ((av - 1) * 256 + 6)),(addr / 65536),(addr % 65536),h8,h9,port,s1,s2,s3,s4,s5,s6,s7,(Qb (Qb (Qb s8 (h6 % 65536) (addr / 65536)) (h7 % 65536) (addr % 65536)) s0 port),s9] 18 au
 have yW:(fr [h0,h1,h2,h3,((av - 1) * 256 + 6),(Qb (Qb (Qb h5 h6 (addr / 65536)) h7 (addr % 65536)) h4 ((av - 1) * 256 + 6)),(addr / 65536),(addr % 65536),h8,h9,port,s1,s2,s3,s4,s5,s6,s7,(Qb (Qb (Qb s8 (h6 % 65536) (addr / 65536)) (h7 % 65536) (addr % 65536)) s0 port),s9] t).drop 20=fr [port,s1,s2,s3,s4,s5,s6,s7,(Qb (Qb (Qb s8 (h6 % 65536) (addr / 65536)) (h7 % 65536) (addr % 65536)) s0 port),s9] t:=yT t [h0,h1,h2,h3,((av - 1) * 256 + 6),(Qb (Qb (Qb h5 h6 (addr / 65536)) h7 (addr % 65536)) h4 ((av - 1) * 256 + 6)),(addr / 65536),(addr % 65536),h8,h9,port,s1,s2,s3,s4,s5,s6,s7,(Qb (Qb (Qb s8 (h6 % 65536) (addr / 65536)) (h7 % 65536) (addr % 65536)) s0 port),s9] 10 au
 unfold Yc tl sB
 simp only[reduceCtorEq,Int.reduceEq,if_true,if_false,↓reduceIte,false_or,true_or,and_true,Nat.reduceAdd]
 simp only[e0,e1,e2,e3,e4,e5,e6,e7,e8,e9,yW]
 split<;>rfl
theorem OP (h0 h1 h2 h3 h4 h5 h6 h7 h8 h9 s0 s1 s2 s3 s4 s5 s6 s7 s8 s9 av addr port:Int) (t:List UInt8):Yc (fr [h0,h1,h2,h3,h4,h5,h6,h7,h8,h9,s0,s1,s2,s3,s4,s5,s6,s7,s8,s9] t) 6 av 16 22 addr port=fr [h0,h1,h2,h3,((av - 1) * 256 + 6),(Qb (Qb (Qb h5 h8 (addr / 65536)) h9 (addr % 65536)) h4 ((av - 1) * 256 + 6)),h6,h7,(addr / 65536),(addr % 65536),s0,port,s2,s3,s4,s5,s6,s7,(if (Qb (Qb (Qb s8 (h8 % 65536) (addr / 65536)) (h9 % 65536) (addr % 65536)) s1 port) % 65536=0∧cq (fr [s0,port,s2,s3,s4,s5,s6,s7,(Qb (Qb (Qb s8 (h8 % 65536) (addr / 65536)) (h9 % 65536) (addr % 65536)) s1 port),s9] t)=0 then 65535 else (Qb (Qb (Qb s8 (h8 % 65536) (addr / 65536)) (h9 % 65536) (addr % 65536)) s1 port)),s9] t:=by
 have e0:w2 (fr [h0,h1,h2,h3,h4,h5,h6,h7,h8,h9,s0,s1,s2,s3,s4,s5,s6,s7,s8,s9] t) 16=h8 % 65536:=lK t [h0,h1,h2,h3,h4,h5,h6,h7,h8,h9,s0,s1,s2,s3,s4,s5,s6,s7,s8,s9] 8 au
 have e1:Ql (fr [h0,h1,h2,h3,h4,h5,h6,h7,h8,h9,s0,s1,s2,s3,s4,s5,s6,s7,s8,s9] t) 16 10 (addr / 65536)=fr [h0,h1,h2,h3,h4,(Qb h5 h8 (addr / 65536)),h6,h7,(addr / 65536),h9,s0,s1,s2,s3,s4,s5,s6,s7,s8,s9] t:=Zg [h0,h1,h2,h3,h4,h5,h6,h7,h8,h9,s0,s1,s2,s3,s4,s5,s6,s7,s8,s9] t 8 5 (addr / 65536) au au
 have e2:Kh (fr [h0,h1,h2,h3,h4,(Qb h5 h8 (addr / 65536)),h6,h7,(addr / 65536),h9,s0,s1,s2,s3,s4,s5,s6,s7,s8,s9] t) 36 (h8 % 65536) (addr / 65536)=fr [h0,h1,h2,h3,h4,(Qb h5 h8 (addr / 65536)),h6,h7,(addr / 65536),h9,s0,s1,s2,s3,s4,s5,s6,s7,(Qb s8 (h8 % 65536) (addr / 65536)),s9] t:=u7 [h0,h1,h2,h3,h4,(Qb h5 h8 (addr / 65536)),h6,h7,(addr / 65536),h9,s0,s1,s2,s3,s4,s5,s6,s7,s8,s9] t 18 (h8 % 65536) (addr / 65536) au
 have e3:w2 (fr [h0,h1,h2,h3,h4,(Qb h5 h8 (addr / 65536)),h6,h7,(addr / 65536),h9,s0,s1,s2,s3,s4,s5,s6,s7,(Qb s8 (h8 % 65536) (addr / 65536)),s9] t) 18=h9 % 65536:=lK t [h0,h1,h2,h3,h4,(Qb h5 h8 (addr / 65536)),h6,h7,(addr / 65536),h9,s0,s1,s2,s3,s4,s5,s6,s7,(Qb s8 (h8 % 65536) (addr / 65536)),s9] 9 au
 have e4:Ql (fr [h0,h1,h2,h3,h4,(Qb h5 h8 (addr / 65536)),h6,h7,(addr / 65536),h9,s0,s1,s2,s3,s4,s5,s6,s7,(Qb s8 (h8 % 65536) (addr / 65536)),s9] t) 18 10 (addr % 65536)=fr [h0,h1,h2,h3,h4,(Qb (Qb h5 h8 (addr / 65536)) h9 (addr % 65536)),h6,h7,(addr / 65536),(addr % 65536),s0,s1,s2,s3,s4,s5,s6,s7,(Qb s8 (h8 % 65536) (addr / 65536)),s9] t:=Zg [h0,h1,h2,h3,h4,(Qb h5 h8 (addr / 65536)),h6,h7,(addr / 65536),h9,s0,s1,s2,s3,s4,s5,s6,s7,(Qb s8 (h8 % 65536) (addr / 65536)),s9] t 9 5 (addr % 65536) au au
 have e5:Kh (fr [h0,h1,h2,h3,h4,(Qb (Qb h5 h8 (addr / 65536)) h9 (addr % 65536)),h6,h7,(addr / 65536),(addr % 65536),s0,s1,s2,s3,s4,s5,s6,s7,(Qb s8 (h8 % 65536) (addr / 65536)),s9] t) 36 (h9 % 65536) (addr % 65536)=fr [h0,h1,h2,h3,h4,(Qb (Qb h5 h8 (addr / 65536)) h9 (addr % 65536)),h6,h7,(addr / 65536),(addr % 65536),s0,s1,s2,s3,s4,s5,s6,s7,(Qb (Qb s8 (h8 % 65536) (addr / 65536)) (h9 % 65536) (addr % 65536)),s9] t:=u7 [h0,h1,h2,h3,h4,(Qb (Qb h5 h8 (addr / 65536)) h9 (addr % 65536)),h6,h7,(addr / 65536),(addr % 65536),s0,s1,s2,s3,s4,s5,s6,s7,(Qb s8 (h8 % 65536) (addr / 65536)),s9] t 18 (h9 % 65536) (addr % 65536) au
 have e6:Ql (fr [h0,h1,h2,h3,h4,(Qb (Qb h5 h8 (addr / 65536)) h9 (addr % 65536)),h6,h7,(addr / 65536),(addr % 65536),s0,s1,s2,s3,s4,s5,s6,s7,(Qb (Qb s8 (h8 % 65536) (addr / 65536)) (h9 % 65536) (addr % 65536)),s9] t) 8 10 ((av - 1) * 256 + 6)=fr [h0,h1,h2,h3,((av - 1) * 256 + 6),(Qb (Qb (Qb h5 h8 (addr / 65536)) h9 (addr % 65536)) h4 ((av - 1) * 256 + 6)),h6,h7,(addr / 65536),(addr % 65536),s0,s1,s2,s3,s4,s5,s6,s7,(Qb (Qb s8 (h8 % 65536) (addr / 65536)) (h9 % 65536) (addr % 65536)),s9] t:=Zg [h0,h1,h2,h3,h4,(Qb (Qb h5 h8 (addr / 65536)) h9 (addr % 65536)),h6,h7,(addr / 65536),(addr % 65536),s0,s1,s2,s3,s4,s5,s6,s7,(Qb (Qb s8 (h8 % 65536) (addr / 65536)) (h9 % 65536) (addr % 65536)),s9] t 4 5 ((av - 1) * 256 + 6) au au
 have e7:Ql (fr [h0,h1,h2,h3,((av - 1) * 256 + 6),(Qb (Qb (Qb h5 h8 (addr / 65536)) h9 (addr % 65536)) h4 ((av - 1) * 256 + 6)),h6,h7,(addr / 65536),(addr % 65536),s0,s1,s2,s3,s4,s5,s6,s7,(Qb (Qb s8 (h8 % 65536) (addr / 65536)) (h9 % 65536) (addr % 65536)),s9] t) 22 36 port=fr [h0,h1,h2,h3,((av - 1) * 256 + 6),(Qb (Qb (Qb h5 h8 (addr / 65536)) h9 (addr % 65536)) h4 ((av - 1) * 256 + 6)),h6,h7,(addr / 65536),(addr % 65536),s0,port,s2,s3,s4,s5,s6,s7,(Qb (Qb (Qb s8 (h8 % 65536) (addr / 65536)) (h9 % 65536) (addr % 65536)) s1 port),s9] t:=Zg [h0,h1,h2,h3,((av - 1) * 256 + 6),(Qb (Qb (Qb h5 h8 (addr / 65536)) h9 (addr % 65536)) h4 ((av - 1) * 256 + 6)),h6,h7,(addr / 65536),(addr % 65536),s0,s1,s2,s3,s4,s5,s6,s7,(Qb (Qb s8 (h8 % 65536) (addr / 65536)) (h9 % 65536) (addr % 65536)),s9] t 11 18 port au au
 have e8:w2 (fr [h0,h1,h2,h3,((av - 1) * 256 + 6),(Qb (Qb (Qb h5 h8 (addr / 65536)) h9 (addr % 65536)) h4 ((av - 1) * 256 + 6)),h6,h7,(addr / 65536),(addr % 65536),s0,port,s2,s3,s4,s5,s6,s7,(Qb (Qb (Qb s8 (h8 % 65536) (addr / 65536)) (h9 % 65536) (addr % 65536)) s1 port),s9] t) 36=(Qb (Qb (Qb s8 (h8 % 65536) (addr / 65536)) (h9 % 65536) (addr % 65536)) s1 port) % 65536:=lK t [h0,h1,h2,h3,((av - 1) * 256 + 6),(Qb (Qb (Qb h5 h8 (addr / 65536)) h9 (addr % 65536)) h4 ((av - 1) * 256 + 6)),h6,h7,(addr / 65536),(addr % 65536),s0,port,s2,s3,s4,s5,s6,s7,(Qb (Qb (Qb s8 (h8 % 65536) (addr / 65536)) (h9 % 65536) (addr % 65536)) s1 port),s9] 18 au
 have e9:Wf (fr [h0,h1,h2,h3,((av - 1) * 256 + 6),(Qb (Qb (Qb h5 h8 (addr / 65536)) h9 (addr % 65536)) h4 ((av - 1) * 256 + 6)),h6,h7,(addr / 65536),(addr % 65536),s0,port,s2,s3,s4,s5,s6,s7,(Qb (Qb (Qb s8 (h8 % 65536) (addr / 65536)) (h9 % 65536) (addr % 65536)) s1 port),s9] t) 36 65535=fr [h0,h1,h2,h3,((av - 1) * 256 + 6),(Qb (Qb (Qb h5 h8 (addr / 65536)) h9 (addr % 65536)) h4 ((av - 1) * 256 + 6)),h6,h7,(addr / 65536),(addr % 65536),s0,port,s2,s3,s4,s5,s6,s7,65535,s9] t:=u6 t 65535 [h0,h1,h2,h3,((av - 1) * 256 + 6),(Qb (Qb (Qb h5 h8 (addr / 65536)) h9 (addr % 65536)) h4 ((av - 1) * 256 + 6)),h6,h7,(addr / 65536),(addr % 65536),s0,port,s2,s3,s4,s5,s6,s7,(Qb (Qb (Qb s8 (h8 % 65536) (addr / 65536)) (h9 % 65536) (addr % 65536)) s1 port),s9] 18 au
 have yW:(fr [h0,h1,h2,h3,((av - 1) * 256 + 6),(Qb (Qb (Qb h5 h8 (addr / 65536)) h9 (addr % 65536)) h4 ((av - 1) * 256 + 6)),h6,h7,(addr / 65536),(addr % 65536),s0,port,s2,s3,s4,s5,s6,s7,(Qb (Qb (Qb s8 (h8 % 65536) (addr / 65536)) (h9 % 65536) (addr % 65536)) s1 port),s9] t).drop 20=fr [s0,port,s2,s3,s4,s5,s6,s7,(Qb (Qb (Qb s8 (h8 % 65536) (addr / 65536)) (h9 % 65536) (addr % 65536)) s1 port),s9] t:=yT t [h0,h1,h2,h3,((av - 1) * 256 + 6),(Qb (Qb (Qb h5 h8 (addr / 65536)) h9 (addr % 65536)) h4 ((av - 1) * 256 + 6)),h6,h7,(addr / 65536),(addr % 65536),s0,port,s2,s3,s4,s5,s6,s7,(Qb (Qb (Qb s8 (h8 % 65536) (addr / 65536)) (h9 % 65536) (addr % 65536)) s1 port),s9] 10 au
 unfold Yc tl sB
 simp only[reduceCtorEq,Int.reduceEq,if_true,if_false,↓reduceIte,false_or,true_or,and_true,Nat.reduceAdd]
 simp only[e0,e1,e2,e3,e4,e5,e6,e7,e8,e9,yW]
 split<;>rfl
theorem XC (l:List UInt8) (T:Int) (h:(Xh l:Int)=T):(Zb l:Int)=cI T:=by
 subst h
 have:=E8 l
 unfold Zb cI cq at *
 rw[Int.toNat_natCast];omega
theorem Yaq (p:Pk) (n:Int) (hp:0≤p.af∧p.af < 256) (t:List UInt8):Uw p.af p.aB p.dst p.av p.id n++t=fr (gN p n (cI (Qz (gN p n 0)))) t:=by
 unfold Uw
 rw[XC _ (Qz (gN p n 0)),XA p n _ hp]
 have:=XA p n 0 hp []
 rw[xC,List.append_nil]at this
 rw[this,wE];simp[Xh]
def rQ (p:Pk) (n:Int):List Int:=if p.af=1 then [] else [p.aB / 65536,p.aB % 65536,p.dst / 65536,p.dst % 65536,p.af,n]
theorem XE (p:Pk) (n:Int) (t:List UInt8):Yt p.af p.aB p.dst n++t=fr (rQ p n) t:=by
 unfold Yt rQ
 split
 ·rfl
 ·simp only[List.append_assoc]
  rw[l8 n,l8 p.af,Bt p.dst,Bt p.aB]
  simp only[yV];rfl
def j3 (p:Pk):Int:=Qz (rQ p (Xl p)) + Qz (jg p 0) + Xh p.body
theorem oZ (p:Pk) (hp:p.af=1∨p.af=6∨p.af=17) (hf:0≤p.flags∧p.flags < 256):(gQ p:Int)=if p.af=17∧cI (j3 p)=0 then 65535 else cI (j3 p):=by
 have e:(Zb (Yt p.af p.aB p.dst (Xl p)++Uf p++[0,0]++jP p):Int)=cI (j3 p):=by
  apply XC
  have h:=XB p hp hf 0
  rw[xC]at h
  rw[List.append_assoc,List.append_assoc,← List.append_assoc (Uf p),h,XE,wE,Int.add_comm,wE]
  unfold j3
  omega
 unfold gQ
 by_cases h:p.af=17∧cI (j3 p)=0
 ·rw[if_pos ⟨h.1,by omega⟩,if_pos h];rfl
 ·rw[if_neg (fun hh=>h ⟨hh.1,by omega⟩),if_neg h,e]
theorem Wm (p:Pk) (hp:p.af=1∨p.af=6∨p.af=17) (hf:0≤p.flags∧p.flags < 256):Xk p=fr (gN p (Xl p) (cI (Qz (gN p (Xl p) 0)))++jg p (gQ p)) p.body:=by
 unfold Xk js
 rw[XB p hp hf,Yaq p _ ae,yV]
theorem Ih (T m1 n1 m2 n2 m3 n3:Int) (nG:0≤m1∧m1≤65535) (sO:0≤n1∧n1≤65535) (jI:0≤m2∧m2≤65535) (oI:0≤n2∧n2≤65535) (EP:0≤m3∧m3≤65535) (ER:0≤n3∧n3≤65535) (h:0 < T - m1 - m2 - m3) :
  Qb (Qb (Qb (cI T) m1 n1) m2 n2) m3 n3=cI (T - m1 + n1 - m2 + n2 - m3 + n3):=by
 rw[OH T m1 n1 ae nG sO ae,OH _ m2 n2 ae jI oI ae,OH _ m3 n3 ae EP ER ae]
theorem XF (c T m1 n1 m2 n2 m3 n3:Int) (hc:lL c T) (nG:0≤m1∧m1≤65535) (sO:0≤n1∧n1≤65535) (jI:0≤m2∧m2≤65535) (oI:0≤n2∧n2≤65535) (EP:0≤m3∧m3≤65535) (ER:0≤n3∧n3≤65535) :
  lL (Qb (Qb (Qb c m1 n1) m2 n2) m3 n3) (T - m1 + n1 - m2 + n2 - m3 + n3) :=
 yU _ _ _ _ (yU _ _ _ _ (yU _ _ _ _ hc nG sO) jI oI) EP ER
theorem Bu {S T:Int} (h:S=T):cI S=cI T:=by rw[h]
theorem Ii (ws:List Int) (t:List UInt8):cq (fr ws t)=0 ↔ Qz ws + Xh t=0:=by
 have:=wE t ws
 unfold cq Jb
 split<;>omega
theorem XH (T m n r:Int) (hm:0≤m∧m≤65535) (hn:0≤n∧n≤65535) (hr:0≤r) (hT:T=m + r) (P:Prop) [Decidable P] (hP:P ↔ Qb (cI T) m n + n + r=0):(if Qb (cI T) m n % 65536=0∧P then 65535 else Qb (cI T) m n)=cI (n + r):=by
 have hb:=C5 (cI T) m n
 have hs:=sW T
 have he:=EO (cI T) m n hs hm hn
 by_cases h0:n + r=0
 ·have yJ:n=0:=by omega
  have hr0:r=0:=by omega
  rw[h0,Ie]
  have e:Qb (cI T) m n=0:=by
   rw[he]
   by_cases wF:T=0
   ·have GI:m=0:=by omega
    have h9:(131070:Int) - cI T - m + n=65535:=by rw[wF,Ie];omega
    rw[h9];decide
   ·have h1:=sX T ae
    have h2:=sX (131070 - cI T - m + n) ae
    have h3:=sW (131070 - cI T - m + n)
    omega
  rw[if_pos ⟨by rw[e];rfl,hP.2 (by rw[e];omega)⟩]
 ·rw[if_neg (fun hh=>by have:=hP.1 hh.2;omega),he]
  by_cases wF:T=0
  ·have GI:m=0:=by omega
   have hr0:r=0:=by omega
   have h9:cI T=65535:=by rw[wF,Ie]
   exact Ig _ _ ae ae ae
  ·have h1:=sX T ae
   exact Ig _ _ ae ae ae
theorem Qzf (p:Pk) (h:Yo p=0) (side addr port:Int) (ht:Ug p side addr port=0):Yo (oG p side addr port)=0:=by
 obtain ⟨hp,hr,hl,hf⟩:=Wc h
 unfold Ug at ht
 split at ht
 ·cases ht
 split at ht
 ·cases ht
 split at ht
 ·cases ht
 rename_i t1 t2 t3
 obtain ⟨r1,r2,r3,r4,r5,r6,r7,r8,r9,ic⟩:=hr
 rcases p with ⟨af,aB,ai,dst,aj,av,id,flags,seq,aL,win,body⟩
 dsimp only at *
 unfold Wu at hf
 dsimp only at hf
 have ha:0≤addr∧addr≤4294967295:=by omega
 have hq:0≤port∧port≤65535:=by omega
 unfold oG
 split
 ·refine Lp hp ⟨ha,r2,r3,r4,hq,r6,r7,r8,⟨?_,?_⟩,ic⟩ hl ?_
  ·dsimp only;omega
  ·dsimp only;omega
  ·unfold Wu;dsimp only;omega
 ·refine Lp hp ⟨r1,ha,r3,r4,r5,hq,r7,r8,⟨?_,?_⟩,ic⟩ hl ?_
  ·dsimp only;omega
  ·dsimp only;omega
  ·unfold Wu;dsimp only;omega
theorem OQ (n id av pr f1 f2 d1 d2 a1 a2:Int) (h1:0≤n∧n≤200) (h2:0≤id∧id≤65535) (h3:2≤av∧av≤255) (h4:0≤pr∧pr≤255) (h5:0≤f1∧f1≤65535) (h6:0≤f2∧f2≤65535) (h7:0≤d1∧d1≤65535) (h8:0≤d2∧d2≤65535) (h9:0≤a1∧a1≤65535) (fC:0≤a2∧a2≤65535) :
  Qb (Qb (Qb (cI (Qz [17664,20 + n,id,0,av * 256 + pr,0,f1,f2,d1,d2])) f1 a1) f2 a2) (av * 256 + pr) ((av - 1) * 256 + pr)=cI (Qz [17664,20 + n,id,0,(av - 1) * 256 + pr,0,a1,a2,d1,d2]):=by
 rw[Ih _ _ _ _ _ _ _ h5 h9 h6 fC ae ae (by simp only[Qz];omega)]
 apply Bu;simp only[Qz];omega
theorem OR (n id av pr f1 f2 d1 d2 a1 a2:Int) (h1:0≤n∧n≤200) (h2:0≤id∧id≤65535) (h3:2≤av∧av≤255) (h4:0≤pr∧pr≤255) (h5:0≤f1∧f1≤65535) (h6:0≤f2∧f2≤65535) (h7:0≤d1∧d1≤65535) (h8:0≤d2∧d2≤65535) (h9:0≤a1∧a1≤65535) (fC:0≤a2∧a2≤65535) :
  Qb (Qb (Qb (cI (Qz [17664,20 + n,id,0,av * 256 + pr,0,f1,f2,d1,d2])) d1 a1) d2 a2) (av * 256 + pr) ((av - 1) * 256 + pr)=cI (Qz [17664,20 + n,id,0,(av - 1) * 256 + pr,0,f1,f2,a1,a2]):=by
 rw[Ih _ _ _ _ _ _ _ h7 h9 h8 fC ae ae (by simp only[Qz];omega)]
 apply Bu;simp only[Qz];omega
theorem XI {k:Int} {P:Prop} [Decidable P] (h:¬ P):(if P then 65535 else k)=k:=if_neg h
theorem XJ (k T:Int) (h:lL k T) (hT:0 < T):(if k % 65536=0 then 65535 else k)=if cI T=0 then 65535 else cI T:=by
 obtain ⟨h1,h2,h3⟩:=h
 have h4:=sX T hT
 have h5:=sW T
 split
 ·rename_i hh
  split
  ·rfl
  ·omega
 ·rename_i hh
  have:k≠0:=fun e=>hh ae
  split<;>omega
theorem XK (T:Int) (h:0 < T):lL (if cI T=0 then 65535 else cI T) T:=by
 have h4:=sX T h
 have h5:=sW T
 unfold lL;split<;>omega
theorem Xh9 (aB ai dst aj av id flags seq aL win addr port:Int) (body:List UInt8) (r1:0≤aB∧aB≤4294967295) (r2:0≤dst∧dst≤4294967295) (r3:0≤seq∧seq≤4294967295) (r4:0≤aL∧aL≤4294967295) (r5:0≤ai∧ai≤65535) (r6:0≤aj∧aj≤65535) (r7:0≤id∧id≤65535) (r8:0≤win∧win≤65535) (r9:2≤av∧av≤255) (ic:0≤flags∧flags≤63) (hl:body.length≤64) (ha:0≤addr∧addr≤4294967295) (hq:0≤port∧port≤65535) (r11:seq≤65535):Yc (Xk (⟨1,aB,ai,dst,0,av,id,flags,seq,aL,win,body⟩:Pk)) 1 av 12 24 addr port=Xk (⟨1,addr,port,dst,0,av - 1,id,flags,seq,aL,win,body⟩:Pk):=by
 have hN:=Kf (⟨1,aB,ai,dst,0,av,id,flags,seq,aL,win,body⟩:Pk) au
 have hM:=Kf (⟨1,addr,port,dst,0,av - 1,id,flags,seq,aL,win,body⟩:Pk) au
 have jh:Xl (⟨1,addr,port,dst,0,av - 1,id,flags,seq,aL,win,body⟩:Pk)=Xl (⟨1,aB,ai,dst,0,av,id,flags,seq,aL,win,body⟩:Pk):=by rw[hM,hN]
 have tO:Xl (⟨1,aB,ai,dst,0,av,id,flags,seq,aL,win,body⟩:Pk)≤84:=by rw[hN];simp;omega
 have jK:=oZ (⟨1,aB,ai,dst,0,av,id,flags,seq,aL,win,body⟩:Pk) au (by dsimp only;omega)
 have lM:=oZ (⟨1,addr,port,dst,0,av - 1,id,flags,seq,aL,win,body⟩:Pk) au (by dsimp only;omega)
 rw[Wm (⟨1,aB,ai,dst,0,av,id,flags,seq,aL,win,body⟩:Pk) au (by dsimp only;omega),Wm (⟨1,addr,port,dst,0,av - 1,id,flags,seq,aL,win,body⟩:Pk) au (by dsimp only;omega),jK,lM,jh]
 unfold j3 rQ
 rw[jh]
 clear jK lM hM hN jh
 generalize Xl (⟨1,aB,ai,dst,0,av,id,flags,seq,aL,win,body⟩:Pk)=n at *
 unfold gN jg
 dsimp only
 simp only[reduceCtorEq,Int.reduceEq,if_true,if_false,↓reduceIte,false_and,true_and,List.cons_append,List.nil_append]
 rw[OK]
 refine congrArg (fun l=>fr l body) ?_
 rw[OQ _ _ _ _ _ _ _ _ _ _ ae ae ae ae ae ae ae ae ae ae]
 have hS:=Int.natCast_nonneg (Xh body)
 have cX:=XH (Qz [] + Qz [flags * 256,0,ai + 0,seq] + Xh body) (ai + 0) port (flags * 256 + seq + Xh body) ae ae ae (by simp only[Qz];omega) (cq (fr [flags * 256,Qb (cI (Qz [] + Qz [flags * 256,0,ai + 0,seq] + Xh body)) (ai + 0) port,port,seq] body)=0) (by
  have hb:=C5 (cI (Qz [] + Qz [flags * 256,0,ai + 0,seq] + Xh body)) (ai + 0) port
  rw[Ii];generalize Qb (cI (Qz [] + Qz [flags * 256,0,ai + 0,seq] + Xh body)) (ai + 0) port=u at *;simp only[Qz];omega)
 rw[cX]
 have e2:cI (port + (flags * 256 + seq + Xh body))=cI (Qz [] + Qz [flags * 256,0,port + 0,seq] + Xh body):=by apply Bu;simp only[Qz];omega
 rw[e2]
 simp
theorem Xi2 (aB ai dst aj av id flags seq aL win addr port:Int) (body:List UInt8) (r1:0≤aB∧aB≤4294967295) (r2:0≤dst∧dst≤4294967295) (r3:0≤seq∧seq≤4294967295) (r4:0≤aL∧aL≤4294967295) (r5:0≤ai∧ai≤65535) (r6:0≤aj∧aj≤65535) (r7:0≤id∧id≤65535) (r8:0≤win∧win≤65535) (r9:2≤av∧av≤255) (ic:0≤flags∧flags≤63) (hl:body.length≤64) (ha:0≤addr∧addr≤4294967295) (hq:0≤port∧port≤65535) (r11:seq≤65535):Yc (Xk (⟨1,aB,0,dst,aj,av,id,flags,seq,aL,win,body⟩:Pk)) 1 av 16 24 addr port=Xk (⟨1,aB,0,addr,port,av - 1,id,flags,seq,aL,win,body⟩:Pk):=by
 have hN:=Kf (⟨1,aB,0,dst,aj,av,id,flags,seq,aL,win,body⟩:Pk) au
 have hM:=Kf (⟨1,aB,0,addr,port,av - 1,id,flags,seq,aL,win,body⟩:Pk) au
 have jh:Xl (⟨1,aB,0,addr,port,av - 1,id,flags,seq,aL,win,body⟩:Pk)=Xl (⟨1,aB,0,dst,aj,av,id,flags,seq,aL,win,body⟩:Pk):=by rw[hM,hN]
 have tO:Xl (⟨1,aB,0,dst,aj,av,id,flags,seq,aL,win,body⟩:Pk)≤84:=by rw[hN];simp;omega
 have jK:=oZ (⟨1,aB,0,dst,aj,av,id,flags,seq,aL,win,body⟩:Pk) au (by dsimp only;omega)
 have lM:=oZ (⟨1,aB,0,addr,port,av - 1,id,flags,seq,aL,win,body⟩:Pk) au (by dsimp only;omega)
 rw[Wm (⟨1,aB,0,dst,aj,av,id,flags,seq,aL,win,body⟩:Pk) au (by dsimp only;omega),Wm (⟨1,aB,0,addr,port,av - 1,id,flags,seq,aL,win,body⟩:Pk) au (by dsimp only;omega),jK,lM,jh]
 unfold j3 rQ
 rw[jh]
 clear jK lM hM hN jh
 generalize Xl (⟨1,aB,0,dst,aj,av,id,flags,seq,aL,win,body⟩:Pk)=n at *
 unfold gN jg
 dsimp only
 simp only[reduceCtorEq,Int.reduceEq,if_true,if_false,↓reduceIte,false_and,true_and,List.cons_append,List.nil_append]
 rw[OL]
 refine congrArg (fun l=>fr l body) ?_
 rw[OR _ _ _ _ _ _ _ _ _ _ ae ae ae ae ae ae ae ae ae ae]
 have hS:=Int.natCast_nonneg (Xh body)
 have cX:=XH (Qz [] + Qz [flags * 256,0,0 + aj,seq] + Xh body) (0 + aj) port (flags * 256 + seq + Xh body) ae ae ae (by simp only[Qz];omega) (cq (fr [flags * 256,Qb (cI (Qz [] + Qz [flags * 256,0,0 + aj,seq] + Xh body)) (0 + aj) port,port,seq] body)=0) (by
  have hb:=C5 (cI (Qz [] + Qz [flags * 256,0,0 + aj,seq] + Xh body)) (0 + aj) port
  rw[Ii];generalize Qb (cI (Qz [] + Qz [flags * 256,0,0 + aj,seq] + Xh body)) (0 + aj) port=u at *;simp only[Qz];omega)
 rw[cX]
 have e2:cI (port + (flags * 256 + seq + Xh body))=cI (Qz [] + Qz [flags * 256,0,0 + port,seq] + Xh body):=by apply Bu;simp only[Qz];omega
 rw[e2]
 simp
theorem Xj2 (aB ai dst aj av id flags seq aL win addr port:Int) (body:List UInt8) (r1:0≤aB∧aB≤4294967295) (r2:0≤dst∧dst≤4294967295) (r3:0≤seq∧seq≤4294967295) (r4:0≤aL∧aL≤4294967295) (r5:0≤ai∧ai≤65535) (r6:0≤aj∧aj≤65535) (r7:0≤id∧id≤65535) (r8:0≤win∧win≤65535) (r9:2≤av∧av≤255) (ic:0≤flags∧flags≤63) (hl:body.length≤64) (ha:0≤addr∧addr≤4294967295) (hq:0≤port∧port≤65535):Yc (Xk (⟨17,aB,ai,dst,aj,av,id,flags,seq,aL,win,body⟩:Pk)) 17 av 12 20 addr port=Xk (⟨17,addr,port,dst,aj,av - 1,id,flags,seq,aL,win,body⟩:Pk):=by
 have hN:=Kf (⟨17,aB,ai,dst,aj,av,id,flags,seq,aL,win,body⟩:Pk) au
 have hM:=Kf (⟨17,addr,port,dst,aj,av - 1,id,flags,seq,aL,win,body⟩:Pk) au
 have jh:Xl (⟨17,addr,port,dst,aj,av - 1,id,flags,seq,aL,win,body⟩:Pk)=Xl (⟨17,aB,ai,dst,aj,av,id,flags,seq,aL,win,body⟩:Pk):=by rw[hM,hN]
 have tO:Xl (⟨17,aB,ai,dst,aj,av,id,flags,seq,aL,win,body⟩:Pk)≤84:=by rw[hN];simp;omega
 have jK:=oZ (⟨17,aB,ai,dst,aj,av,id,flags,seq,aL,win,body⟩:Pk) au (by dsimp only;omega)
 have lM:=oZ (⟨17,addr,port,dst,aj,av - 1,id,flags,seq,aL,win,body⟩:Pk) au (by dsimp only;omega)
 rw[Wm (⟨17,aB,ai,dst,aj,av,id,flags,seq,aL,win,body⟩:Pk) au (by dsimp only;omega),Wm (⟨17,addr,port,dst,aj,av - 1,id,flags,seq,aL,win,body⟩:Pk) au (by dsimp only;omega),jK,lM,jh]
 unfold j3 rQ
 rw[jh]
 clear jK lM hM hN jh
 generalize Xl (⟨17,aB,ai,dst,aj,av,id,flags,seq,aL,win,body⟩:Pk)=n at *
 unfold gN jg
 dsimp only
 simp only[reduceCtorEq,Int.reduceEq,if_true,if_false,↓reduceIte,false_and,true_and,List.cons_append,List.nil_append]
 rw[OM]
 refine congrArg (fun l=>fr l body) ?_
 rw[OQ _ _ _ _ _ _ _ _ _ _ ae ae ae ae ae ae ae ae ae ae]
 have e1:aB / 65536 % 65536=aB / 65536:=by omega
 have e2:aB % 65536 % 65536=aB % 65536:=by omega
 rw[e1,e2]
 have hS:=Int.natCast_nonneg (Xh body)
 have gX:=XK (Qz [aB / 65536,aB % 65536,dst / 65536,dst % 65536,17,↑n] + Qz [ai,aj,8 + ↑body.length,0] + Xh body) (by simp only[Qz];omega)
 have hk:=XF _ _ (aB / 65536) (addr / 65536) (aB % 65536) (addr % 65536) ai port gX ae ae ae ae ae ae
 have hT:Qz [aB / 65536,aB % 65536,dst / 65536,dst % 65536,17,↑n] + Qz [ai,aj,8 + ↑body.length,0] + Xh body - (aB / 65536) + addr / 65536 - (aB % 65536) + addr % 65536 - ai + port=Qz [addr / 65536,addr % 65536,dst / 65536,dst % 65536,17,↑n] + Qz [port,aj,8 + ↑body.length,0] + Xh body:=by simp only[Qz];omega
 rw[hT]at hk
 have cX:=XJ _ _ hk (by simp only[Qz];omega)
 rw[cX]
theorem Xls (aB ai dst aj av id flags seq aL win addr port:Int) (body:List UInt8) (r1:0≤aB∧aB≤4294967295) (r2:0≤dst∧dst≤4294967295) (r3:0≤seq∧seq≤4294967295) (r4:0≤aL∧aL≤4294967295) (r5:0≤ai∧ai≤65535) (r6:0≤aj∧aj≤65535) (r7:0≤id∧id≤65535) (r8:0≤win∧win≤65535) (r9:2≤av∧av≤255) (ic:0≤flags∧flags≤63) (hl:body.length≤64) (ha:0≤addr∧addr≤4294967295) (hq:0≤port∧port≤65535):Yc (Xk (⟨17,aB,ai,dst,aj,av,id,flags,seq,aL,win,body⟩:Pk)) 17 av 16 22 addr port=Xk (⟨17,aB,ai,addr,port,av - 1,id,flags,seq,aL,win,body⟩:Pk):=by
 have hN:=Kf (⟨17,aB,ai,dst,aj,av,id,flags,seq,aL,win,body⟩:Pk) au
 have hM:=Kf (⟨17,aB,ai,addr,port,av - 1,id,flags,seq,aL,win,body⟩:Pk) au
 have jh:Xl (⟨17,aB,ai,addr,port,av - 1,id,flags,seq,aL,win,body⟩:Pk)=Xl (⟨17,aB,ai,dst,aj,av,id,flags,seq,aL,win,body⟩:Pk):=by rw[hM,hN]
 have tO:Xl (⟨17,aB,ai,dst,aj,av,id,flags,seq,aL,win,body⟩:Pk)≤84:=by rw[hN];simp;omega
 have jK:=oZ (⟨17,aB,ai,dst,aj,av,id,flags,seq,aL,win,body⟩:Pk) au (by dsimp only;omega)
 have lM:=oZ (⟨17,aB,ai,addr,port,av - 1,id,flags,seq,aL,win,body⟩:Pk) au (by dsimp only;omega)
 rw[Wm (⟨17,aB,ai,dst,aj,av,id,flags,seq,aL,win,body⟩:Pk) au (by dsimp only;omega),Wm (⟨17,aB,ai,addr,port,av - 1,id,flags,seq,aL,win,body⟩:Pk) au (by dsimp only;omega),jK,lM,jh]
 unfold j3 rQ
 rw[jh]
 clear jK lM hM hN jh
 generalize Xl (⟨17,aB,ai,dst,aj,av,id,flags,seq,aL,win,body⟩:Pk)=n at *
 unfold gN jg
 dsimp only
 simp only[reduceCtorEq,Int.reduceEq,if_true,if_false,↓reduceIte,false_and,true_and,List.cons_append,List.nil_append]
 rw[ON]
 refine congrArg (fun l=>fr l body) ?_
 rw[OR _ _ _ _ _ _ _ _ _ _ ae ae ae ae ae ae ae ae ae ae]
 have e1:dst / 65536 % 65536=dst / 65536:=by omega
 have e2:dst % 65536 % 65536=dst % 65536:=by omega
 rw[e1,e2]
 have hS:=Int.natCast_nonneg (Xh body)
 have gX:=XK (Qz [aB / 65536,aB % 65536,dst / 65536,dst % 65536,17,↑n] + Qz [ai,aj,8 + ↑body.length,0] + Xh body) (by simp only[Qz];omega)
 have hk:=XF _ _ (dst / 65536) (addr / 65536) (dst % 65536) (addr % 65536) aj port gX ae ae ae ae ae ae
 have hT:Qz [aB / 65536,aB % 65536,dst / 65536,dst % 65536,17,↑n] + Qz [ai,aj,8 + ↑body.length,0] + Xh body - (dst / 65536) + addr / 65536 - (dst % 65536) + addr % 65536 - aj + port=Qz [aB / 65536,aB % 65536,addr / 65536,addr % 65536,17,↑n] + Qz [ai,port,8 + ↑body.length,0] + Xh body:=by simp only[Qz];omega
 rw[hT]at hk
 have cX:=XJ _ _ hk (by simp only[Qz];omega)
 rw[cX]
theorem Xjt (aB ai dst aj av id flags seq aL win addr port:Int) (body:List UInt8) (r1:0≤aB∧aB≤4294967295) (r2:0≤dst∧dst≤4294967295) (r3:0≤seq∧seq≤4294967295) (r4:0≤aL∧aL≤4294967295) (r5:0≤ai∧ai≤65535) (r6:0≤aj∧aj≤65535) (r7:0≤id∧id≤65535) (r8:0≤win∧win≤65535) (r9:2≤av∧av≤255) (ic:0≤flags∧flags≤63) (hl:body.length≤64) (ha:0≤addr∧addr≤4294967295) (hq:0≤port∧port≤65535):Yc (Xk (⟨6,aB,ai,dst,aj,av,id,flags,seq,aL,win,body⟩:Pk)) 6 av 12 20 addr port=Xk (⟨6,addr,port,dst,aj,av - 1,id,flags,seq,aL,win,body⟩:Pk):=by
 have hN:=Kf (⟨6,aB,ai,dst,aj,av,id,flags,seq,aL,win,body⟩:Pk) au
 have hM:=Kf (⟨6,addr,port,dst,aj,av - 1,id,flags,seq,aL,win,body⟩:Pk) au
 have jh:Xl (⟨6,addr,port,dst,aj,av - 1,id,flags,seq,aL,win,body⟩:Pk)=Xl (⟨6,aB,ai,dst,aj,av,id,flags,seq,aL,win,body⟩:Pk):=by rw[hM,hN]
 have tO:Xl (⟨6,aB,ai,dst,aj,av,id,flags,seq,aL,win,body⟩:Pk)≤84:=by rw[hN];simp;omega
 have jK:=oZ (⟨6,aB,ai,dst,aj,av,id,flags,seq,aL,win,body⟩:Pk) au (by dsimp only;omega)
 have lM:=oZ (⟨6,addr,port,dst,aj,av - 1,id,flags,seq,aL,win,body⟩:Pk) au (by dsimp only;omega)
 rw[Wm (⟨6,aB,ai,dst,aj,av,id,flags,seq,aL,win,body⟩:Pk) au (by dsimp only;omega),Wm (⟨6,addr,port,dst,aj,av - 1,id,flags,seq,aL,win,body⟩:Pk) au (by dsimp only;omega),jK,lM,jh]
 unfold j3 rQ
 rw[jh]
 clear jK lM hM hN jh
 generalize Xl (⟨6,aB,ai,dst,aj,av,id,flags,seq,aL,win,body⟩:Pk)=n at *
 unfold gN jg
 dsimp only
 simp only[reduceCtorEq,Int.reduceEq,if_true,if_false,↓reduceIte,false_and,true_and,List.cons_append,List.nil_append]
 rw[OO]
 refine congrArg (fun l=>fr l body) ?_
 rw[OQ _ _ _ _ _ _ _ _ _ _ ae ae ae ae ae ae ae ae ae ae]
 have e1:aB / 65536 % 65536=aB / 65536:=by omega
 have e2:aB % 65536 % 65536=aB % 65536:=by omega
 rw[e1,e2]
 have hS:=Int.natCast_nonneg (Xh body)
 have cX:Qb (Qb (Qb (cI (Qz [aB / 65536,aB % 65536,dst / 65536,dst % 65536,6,↑n] + Qz [ai,aj,seq / 65536,seq % 65536,aL / 65536,aL % 65536,80 * 256 + flags,win,0,0] + Xh body)) (aB / 65536) (addr / 65536)) (aB % 65536) (addr % 65536)) ai port=cI (Qz [addr / 65536,addr % 65536,dst / 65536,dst % 65536,6,↑n] + Qz [port,aj,seq / 65536,seq % 65536,aL / 65536,aL % 65536,80 * 256 + flags,win,0,0] + Xh body):=by
  rw[Ih _ _ _ _ _ _ _ ae ae ae ae ae ae (by simp only[Qz];omega)]
  apply Bu;simp only[Qz];omega
 rw[cX]
 rw[XI]
 rintro ⟨_,hh⟩
 rw[Ii]at hh
 have:=sW (Qz [addr / 65536,addr % 65536,dst / 65536,dst % 65536,6,↑n] + Qz [port,aj,seq / 65536,seq % 65536,aL / 65536,aL % 65536,80 * 256 + flags,win,0,0] + Xh body)
 generalize cI (Qz [addr / 65536,addr % 65536,dst / 65536,dst % 65536,6,↑n] + Qz [port,aj,seq / 65536,seq % 65536,aL / 65536,aL % 65536,80 * 256 + flags,win,0,0] + Xh body)=u at *;simp only[Qz]at hh;omega
theorem Xku (aB ai dst aj av id flags seq aL win addr port:Int) (body:List UInt8) (r1:0≤aB∧aB≤4294967295) (r2:0≤dst∧dst≤4294967295) (r3:0≤seq∧seq≤4294967295) (r4:0≤aL∧aL≤4294967295) (r5:0≤ai∧ai≤65535) (r6:0≤aj∧aj≤65535) (r7:0≤id∧id≤65535) (r8:0≤win∧win≤65535) (r9:2≤av∧av≤255) (ic:0≤flags∧flags≤63) (hl:body.length≤64) (ha:0≤addr∧addr≤4294967295) (hq:0≤port∧port≤65535):Yc (Xk (⟨6,aB,ai,dst,aj,av,id,flags,seq,aL,win,body⟩:Pk)) 6 av 16 22 addr port=Xk (⟨6,aB,ai,addr,port,av - 1,id,flags,seq,aL,win,body⟩:Pk):=by
 have hN:=Kf (⟨6,aB,ai,dst,aj,av,id,flags,seq,aL,win,body⟩:Pk) au
 have hM:=Kf (⟨6,aB,ai,addr,port,av - 1,id,flags,seq,aL,win,body⟩:Pk) au
 have jh:Xl (⟨6,aB,ai,addr,port,av - 1,id,flags,seq,aL,win,body⟩:Pk)=Xl (⟨6,aB,ai,dst,aj,av,id,flags,seq,aL,win,body⟩:Pk):=by rw[hM,hN]
 have tO:Xl (⟨6,aB,ai,dst,aj,av,id,flags,seq,aL,win,body⟩:Pk)≤84:=by rw[hN];simp;omega
 have jK:=oZ (⟨6,aB,ai,dst,aj,av,id,flags,seq,aL,win,body⟩:Pk) au (by dsimp only;omega)
 have lM:=oZ (⟨6,aB,ai,addr,port,av - 1,id,flags,seq,aL,win,body⟩:Pk) au (by dsimp only;omega)
 rw[Wm (⟨6,aB,ai,dst,aj,av,id,flags,seq,aL,win,body⟩:Pk) au (by dsimp only;omega),Wm (⟨6,aB,ai,addr,port,av - 1,id,flags,seq,aL,win,body⟩:Pk) au (by dsimp only;omega),jK,lM,jh]
 unfold j3 rQ
 rw[jh]
 clear jK lM hM hN jh
 generalize Xl (⟨6,aB,ai,dst,aj,av,id,flags,seq,aL,win,body⟩:Pk)=n at *
 unfold gN jg
 dsimp only
 simp only[reduceCtorEq,Int.reduceEq,if_true,if_false,↓reduceIte,false_and,true_and,List.cons_append,List.nil_append]
 rw[OP]
 refine congrArg (fun l=>fr l body) ?_
 rw[OR _ _ _ _ _ _ _ _ _ _ ae ae ae ae ae ae ae ae ae ae]
 have e1:dst / 65536 % 65536=dst / 65536:=by omega
 have e2:dst % 65536 % 65536=dst % 65536:=by omega
 rw[e1,e2]
 have hS:=Int.natCast_nonneg (Xh body)
 have cX:Qb (Qb (Qb (cI (Qz [aB / 65536,aB % 65536,dst / 65536,dst % 65536,6,↑n] + Qz [ai,aj,seq / 65536,seq % 65536,aL / 65536,aL % 65536,80 * 256 + flags,win,0,0] + Xh body)) (dst / 65536) (addr / 65536)) (dst % 65536) (addr % 65536)) aj port=cI (Qz [aB / 65536,aB % 65536,addr / 65536,addr % 65536,6,↑n] + Qz [ai,port,seq / 65536,seq % 65536,aL / 65536,aL % 65536,80 * 256 + flags,win,0,0] + Xh body):=by
  rw[Ih _ _ _ _ _ _ _ ae ae ae ae ae ae (by simp only[Qz];omega)]
  apply Bu;simp only[Qz];omega
 rw[cX]
 rw[XI]
 rintro ⟨_,hh⟩
 rw[Ii]at hh
 have:=sW (Qz [aB / 65536,aB % 65536,addr / 65536,addr % 65536,6,↑n] + Qz [ai,port,seq / 65536,seq % 65536,aL / 65536,aL % 65536,80 * 256 + flags,win,0,0] + Xh body)
 generalize cI (Qz [aB / 65536,aB % 65536,addr / 65536,addr % 65536,6,↑n] + Qz [ai,port,seq / 65536,seq % 65536,aL / 65536,aL % 65536,80 * 256 + flags,win,0,0] + Xh body)=u at *;simp only[Qz]at hh;omega
theorem Xgk (p:Pk) (h:Yo p=0) (side addr port:Int) (ht:Ug p side addr port=0):Yc (Xk p) p.af p.av (oE side) (oF p.af side) addr port=Xk (oG p side addr port):=by
 obtain ⟨hp,hr,hl,hf⟩:=Wc h
 unfold Ug at ht
 split at ht
 ·cases ht
 split at ht
 ·cases ht
 split at ht
 ·cases ht
 rename_i t1 t2 t3
 obtain ⟨r1,r2,r3,r4,r5,r6,r7,r8,r9,ic⟩:=hr
 rcases p with ⟨af,aB,ai,dst,aj,av,id,flags,seq,aL,win,body⟩
 dsimp only at *
 unfold Wu at hf
 dsimp only at hf
 have ha:0≤addr∧addr≤4294967295:=by omega
 have hq:0≤port∧port≤65535:=by omega
 unfold oG oE oF
 by_cases hs:side=0
 ·rw[if_pos hs,if_pos hs,if_pos hs]
  rcases hp with rfl|rfl|rfl
  ·have hd:aj=0:=by omega
   subst hd
   exact Xh9 aB ai dst 0 av id flags seq aL win addr port body r1 r2 r3 r4 r5 r6 r7 r8 ae ic hl ha hq ae
  ·exact Xjt aB ai dst aj av id flags seq aL win addr port body r1 r2 r3 r4 r5 r6 r7 r8 ae ic hl ha hq
  ·exact Xj2 aB ai dst aj av id flags seq aL win addr port body r1 r2 r3 r4 r5 r6 r7 r8 ae ic hl ha hq
 ·rw[if_neg hs,if_neg hs,if_neg hs]
  rcases hp with rfl|rfl|rfl
  ·have hd:ai=0:=by omega
   subst hd
   exact Xi2 aB 0 dst aj av id flags seq aL win addr port body r1 r2 r3 r4 r5 r6 r7 r8 ae ic hl ha hq ae
  ·exact Xku aB ai dst aj av id flags seq aL win addr port body r1 r2 r3 r4 r5 r6 r7 r8 ae ic hl ha hq
  ·exact Xls aB ai dst aj av id flags seq aL win addr port body r1 r2 r3 r4 r5 r6 r7 r8 ae ic hl ha hq
theorem Xut (q t set:Int) (bs:List UInt8) (ht:0≤t):Yi q t set bs=Yi q (t % 4294967296) set bs:=by
 unfold Yi
 rw[Int.tmod_eq_emod_of_nonneg ht,Int.tmod_eq_emod_of_nonneg (Int.emod_nonneg t aI),Int.emod_emod]
theorem XL {t u:Int} (ht:t % 4294967296=u):∀ (p l:List Ev),Br t p→(l=[]∨lZ l≤t)→sV u p.length l (Kw p)=some (l++p)
 | [],l,_,_=>by rw[List.append_nil];rfl
 | e::p,l,hp,hl=>by
  obtain ⟨he,het⟩:=hp e au
  show sV u (p.length + 1) l (lG e++Kw p)=_
  rw[sV,Ycj e he]
  have hc:e.t % 4294967296=u∧(l=[]∨lZ l≤e.t):=by rw[het];exact ⟨ht,hl⟩
  dsimp only
  rw[if_pos hc,show 21=(lG e).length from (U8 e).symm,List.drop_left]
  rw[XL ht p (l++[e]) (fun x hx=>hp x (by simp[hx])) (.inr ?_)]
  ·rw[List.append_assoc];rfl
  ·unfold lZ
   rw[List.length_append]
   simp[het]
theorem Xyc (f:Nat) (l p:List Ev) (t:Int) (rest:List UInt8) (ht:0≤t) (hp:Br t p) (h0:p≠[]) (Bq:p.length≤400) (hq:l.length < 4000000) (hl:l=[]∨lZ l≤t) :
  Yn (f + 1) l true (Yi l.length t 300 (Kw p)++rest)=Yn f (l++p) true rest:=by
 have fk:=A7 p
 rw[Xut _ _ _ _ ht]
 obtain ⟨u,hu⟩:∃ u,t % 4294967296=u:=⟨_,rfl⟩
 have h1:=Int.emod_nonneg t (show (4294967296:Int)≠0 by decide)
 have h2:=Int.emod_lt_of_pos t (show (0:Int) < 4294967296 by decide)
 rw[hu]at h1 h2 ⊢
 have h:oY l.length u 300 (Kw p):=⟨by omega,⟨h1,h2⟩,.inr rfl,by omega⟩
 obtain ⟨a1,a2,a3,a4,a5,a6⟩:=h.ok (rest:=rest)
 obtain ⟨_,_,p3,p4,_,p6,_⟩:=h.yS (rest:=rest)
 have dS:0 < p.length:=List.length_pos_iff.2 h0
 rw[Ia a1 a2 a3 p4 (by rw[p6];decide) rfl (by rw[a4];omega),a4,a5,a6,p3]
 have e1:(20 + (Kw p).length - 20) / 21=p.length:=by omega
 have e2:(Yi l.length u 300 (Kw p)).drop 20=Kw p:=by
  unfold Yi
  have hh:(be 10 2++be (20 + (Kw p).length) 2++be (u.tmod 4294967296) 4++be (l.length:Int) 4++be 1 4++be 300 2++be (4 + (Kw p).length) 2).length=20:=by simp[Qp]
  rw[show 20=(be 10 2++be (20 + (Kw p).length) 2++be (u.tmod 4294967296) 4++be (l.length:Int) 4++be 1 4++be 300 2++be (4 + (Kw p).length) 2).length from hh.symm,List.drop_left]
 rw[e1,e2,XL hu p l hp hl]
structure j4 (qa:Nat) (s:List UInt8) (all:List Ev):Prop where
 read:∀ f rest,Yn (qa + f) [] false (s++rest)=Yn f all true rest
theorem j4.ok {qa:Nat} {s:List UInt8} {all:List Ev} (h:j4 qa s all):EJ s=.ok all:=by
 have h1:=h.read 0 []
 rw[List.append_nil,yQ]at h1
 have h2:=W4 s.length (qa + s.length) [] false s (Nat.le_refl _) ae
 have h3:=h.read s.length []
 rw[List.append_nil,yQ,h2]at h3
 exact h3
theorem Xam:j4 1 (Yi 0 0 2 (Wh 6)) []:=⟨fun f rest=>by rw[Nat.add_comm];exact Ybt f false rest⟩
theorem XN {qa:Nat} {s:List UInt8} {all p:List Ev} {t:Int} (h:j4 qa s all) (ht:0≤t) (hp:Br t p) (h0:p≠[]) (Bq:p.length≤400) (hq:all.length < 4000000) (hl:all=[]∨lZ all≤t) :
  j4 (qa + 1) (s++Yi all.length t 300 (Kw p)) (all++p) :=
 ⟨fun f rest=>by rw[List.append_assoc,Nat.add_assoc,Nat.add_comm 1 f,h.read,Xyc f all p t rest ht hp h0 Bq hq hl]⟩
def Bv (s:List UInt8) (all:List Ev):Prop:=(s=[]∧all=[])∨∃ qa,j4 qa s all
theorem Bv.ok {s:List UInt8} {all:List Ev} (h:Bv s all):EJ s=.ok all:=by
 rcases h with ⟨rfl,rfl⟩|⟨qa,h⟩
 ·rfl
 ·exact h.ok
theorem Xp7 {t:Int} {all p:List Ev} (h:Br t p) (h0:p≠[]):lZ (all++p)=t:=by
 unfold lZ
 have hl:=List.length_pos_iff.2 h0
 have hi:all.length + p.length - 1 - all.length=p.length - 1:=by omega
 rw[List.length_append,List.getD_eq_getElem?_getD,List.getElem?_append_right ae,hi,← List.getD_eq_getElem?_getD]
 have hm:p.getD (p.length - 1) W0 ∈ p:=by
  have:p.length - 1 < p.length:=by omega
  simp[this]
 exact (h _ hm).2
theorem Bv.more {s:List UInt8} {all p:List Ev} {t:Int} (h:Bv s all) (hs:all=[]→s=[]) (ht:0≤t) (hp:Br t p) (Bq:p.length≤400) (hq:all.length < 4000000) (hl:all=[]∨lZ all≤t) (told:Nat) (gC:told=all.length) :
  Bv (s++jJ told p) (all++p)∧(all++p=[]→s++jJ told p=[]):=by
 subst gC
 by_cases h0:p=[]
 ·subst h0
  have:jJ all.length ([]:List Ev)=[]:=by simp[jJ]
  rw[this,List.append_nil,List.append_nil]
  exact ⟨h,hs⟩
 ·refine ⟨.inr ?_,fun e=>absurd (List.append_eq_nil_iff.1 e).2 h0⟩
  have OS:(p.headD ⟨0,0,0,0,false⟩).t=t:=by
   cases p with
   | nil=>exact absurd rfl h0
   | cons e p=>exact (hp e au).2
  unfold jJ
  rw[if_neg h0,OS]
  by_cases ha:all=[]
  ·subst ha
   rw[hs rfl,if_pos (by rfl)]
   exact ⟨2,by
    have:=XN Xam ht hp h0 Bq aI (.inl rfl)
    simpa using this⟩
  ·rcases h with ⟨_,h⟩|⟨qa,h⟩
   ·exact absurd h ha
   ·rw[if_neg (by intro e;exact ha (List.length_eq_zero_iff.1 e)),List.nil_append]
    exact ⟨qa + 1,XN h ht hp h0 Bq hq hl⟩
theorem Yc6 (a b:UInt8) (t:List UInt8):a::b::t=fr [w2 (a::b::t) 0] t:=by
 have e:w2 (a::b::t) 0=(a.toNat:Int) * 256 + b.toNat:=by
  show cp [a,b]=_
  rw[sZ _ au]
  simp only[iK]
  omega
 have ha:=UInt8.toNat_lt a
 have hb:=UInt8.toNat_lt b
 rw[e]
 show a::b::t=Qg _ 1::Qg _ 0::t
 rw[wL _ _ ae,wL _ _ ae]
 have e1:(((a.toNat:Int) * 256 + b.toNat) / 256 ^ 1 % 256).toNat=a.toNat:=by omega
 have e2:(((a.toNat:Int) * 256 + b.toNat) / 256 ^ 0 % 256).toNat=b.toNat:=by
  simp only[Int.pow_zero,Int.ediv_one];omega
 rw[e1,e2,UInt8.ofNat_toNat,UInt8.ofNat_toNat]
theorem Ij (l:List UInt8) (i j:Nat):w2 (l.drop i) j=w2 l (i + j):=by
 unfold w2;rw[List.drop_drop]
theorem ES:∀ (n:Nat) (l:List UInt8),2 * n≤l.length→l=fr ((List.range n).map fun i=>w2 l (2 * i)) (l.drop (2 * n))
 | 0,l,_=>rfl
 | n + 1,l,h=>by
  match l,h with
  | [],h=>exact absurd h au
  | [_],h=>exact absurd h (by simp;omega)
  | a::b::t,h =>
   have ih:=ES n t (by simp at h;omega)
   rw[List.range_succ_eq_map,List.map_cons,List.map_map]
   have e1:((fun i=>w2 (a::b::t) (2 * i)) ∘ Nat.succ)=fun i=>w2 t (2 * i):=by
    funext i
    show w2 (a::b::t) (2 * (i + 1))=_
    have:=Ij (a::b::t) 2 (2 * i)
    rw[show 2 * (i + 1)=2 + 2 * i by omega,← this];rfl
   have e2:(a::b::t).drop (2 * (n + 1))=t.drop (2 * n):=rfl
   rw[e1,e2]
   have e3:=Yc6 a b t
   have e4:∀ w ws,fr (w::ws) (t.drop (2 * n))=fr [w] (fr ws (t.drop (2 * n))):=fun _ _=>rfl
   rw[Nat.mul_zero,e4,← ih]
   exact e3
theorem Ik (l:List UInt8) (k:Nat) (h:k + 4≤l.length):w4 l k / 65536=w2 l k∧w4 l k % 65536=w2 l (k + 2):=by
 obtain ⟨a,b,c,d,t,e⟩:∃ a b c d t,l.drop k=a::b::c::d::t:=by
  have hl:4≤(l.drop k).length:=by rw[List.length_drop];omega
  match l.drop k,hl with
  | a::b::c::d::t,_=>exact ⟨a,b,c,d,t,rfl⟩
 have e2:w2 l (k + 2)=w2 (l.drop k) 2:=(Ij l k 2).symm
 have e3:w2 l k=w2 (l.drop k) 0:=(Ij l k 0).symm
 have e4:w4 l k=cp ((l.drop k).take 4):=rfl
 rw[e2,e3,e4,e]
 have g1:w2 (a::b::c::d::t) 0=(a.toNat:Int) * 256 + b.toNat:=by
  show cp [a,b]=_
  rw[sZ _ au];simp only[iK];omega
 have g2:w2 (a::b::c::d::t) 2=(c.toNat:Int) * 256 + d.toNat:=by
  show cp [c,d]=_
  rw[sZ _ au];simp only[iK];omega
 have g3:cp ((a::b::c::d::t).take 4)=(a.toNat:Int) * 16777216 + b.toNat * 65536 + c.toNat * 256 + d.toNat:=by
  show cp [a,b,c,d]=_
  rw[sZ _ au];simp only[iK];omega
 rw[g1,g2,g3]
 have:=UInt8.toNat_lt a
 have:=UInt8.toNat_lt b
 have:=UInt8.toNat_lt c
 have:=UInt8.toNat_lt d
 omega
theorem Il (l:List UInt8) (k:Nat) (h:k + 2≤l.length):w2 l k=b1 l k * 256 + b1 l (k + 1):=by
 obtain ⟨a,b,t,e⟩:∃ a b t,l.drop k=a::b::t:=by
  have hl:2≤(l.drop k).length:=by rw[List.length_drop];omega
  match l.drop k,hl with
  | a::b::t,_=>exact ⟨a,b,t,rfl⟩
 have e3:w2 l k=w2 (l.drop k) 0:=(Ij l k 0).symm
 have g1:w2 (a::b::t) 0=(a.toNat:Int) * 256 + b.toNat:=by
  show cp [a,b]=_
  rw[sZ _ au];simp only[iK];omega
 have f1:b1 l k=a.toNat:=by
  have:l.getD k 0=(l.drop k).getD 0 0:=by simp[List.getD,List.getElem?_drop]
  unfold b1;rw[this,e];rfl
 have f2:b1 l (k + 1)=b.toNat:=by
  have:l.getD (k + 1) 0=(l.drop k).getD 1 0:=by simp[List.getD,List.getElem?_drop]
  unfold b1;rw[this,e];rfl
 rw[e3,e,g1,f1,f2]
theorem OT (c c' m n:Int) (hc:0≤c∧c≤65535) (tn:0≤c'∧c'≤65535) (hm:0≤m∧m≤65535) (hn:0≤n∧n≤65535) (h:(c - c') % 65535=0) (vw:m≠65535∨n≠0):Qb c m n=Qb c' m n:=by
 rw[EO c m n hc hm hn,EO c' m n tn hm hn]
 exact Ig _ _ ae ae ae
theorem XO {l:List UInt8} (h:cq l=65535):0 < Xh l∧Xh l % 65535=0:=by
 unfold cq Jb at h
 split at h
 ·cases h
 ·omega
structure G8n (f:List UInt8):Prop where
 p:H6 f
 g7:¬ G7 f
 g8:¬ G8 f
 g9:¬ G9 f
 g10:¬ qG f
 e:Yo (az f)=0
theorem ET {f:List UInt8} (h:bZ f=0):G8n f:=by
 obtain ⟨k6,he⟩:=LG h
 have h7:¬ G7 f:=fun h7=>by rw[Aq k6 h7]at h;cases h
 have h8:¬ G8 f:=fun h8=>by rw[Da k6 h7 h8]at h;cases h
 have h9:¬ G9 f:=fun h9=>by rw[LA k6 h7 h8 h9]at h;cases h
 have fC:¬ qG f:=fun fC=>by rw[Db k6 h7 h8 h9 fC]at h;cases h
 exact ⟨k6,h7,h8,h9,fC,he⟩
theorem XQ (l:List UInt8):((List.range 4).map fun i=>w2 l (2 * i))=[w2 l 0,w2 l 2,w2 l 4,w2 l 6]:=rfl
theorem XR (l:List UInt8):((List.range 10).map fun i=>w2 l (2 * i))=[w2 l 0,w2 l 2,w2 l 4,w2 l 6,w2 l 8,w2 l 10,w2 l 12,w2 l 14,w2 l 16,w2 l 18]:=rfl
theorem Yfd (p:Pk) (k:Int) (hk:0≤k∧k≤65535):Qz (jg p k)=k + Qz (jg p 0):=by
 unfold jg
 (repeat' split)<;>simp only[Qz]<;>omega
theorem Ydi {p:Pk} {s:List UInt8} {k:Int} (hs:s=fr (jg p k) p.body) (hk:0≤k∧k≤65535) (hn:Xl p=s.length) (o:cq (Yt p.af p.aB p.dst s.length++s)=65535):lL k (j3 p):=by
 obtain ⟨p1,p2⟩:=XO o
 have e:=wE s (rQ p s.length)
 rw[← XE]at e
 have e2:=wE p.body (jg p k)
 rw[← hs,Yfd p k hk]at e2
 unfold j3
 rw[hn]
 exact ⟨hk.1,hk.2,by omega⟩
theorem Xy3 {f:List UInt8} (h:bZ f=0):∃ c k:Int,f=fr (gN (az f) (Xl (az f)) c++jg (az f) k) (az f).body∧lL c (Qz (gN (az f) (Xl (az f)) 0))∧lL k (j3 (az f))∧((az f).af=17→k≠0):=by
 obtain ⟨⟨⟨g1,g2,g3,g4⟩,g5,g6⟩,g7,g8,g9,g10,he⟩:=ET h
 obtain ⟨UD,hl2⟩:=As h
 obtain ⟨o1,o2⟩:=Yd7 h
 unfold G1 at g1
 unfold G3 at g3
 unfold G7 at g7
 have a0:b1 f 0=69:=by omega
 have a1:w2 f 2=f.length:=by omega
 have a2:b1 f 1=0:=by omega
 have a3:w2 f 6=0:=by omega
 have wo:=Il f 0 ae
 have hw8:=Il f 8 ae
 obtain ⟨q1,q2⟩:=Ik f 12 ae
 obtain ⟨q3,q4⟩:=Ik f 16 ae
 have a7:=ES 10 f ae
 rw[XR]at a7
 have hN:=Kf (az f) (Wc he).1
 have c0:=Dd f 10 ae
 have wG:∀ n:Nat,(n:Int) + 20=f.length→gN (az f) n (w2 f 10)=[w2 f 0,w2 f 2,w2 f 4,w2 f 6,w2 f 8,w2 f 10,w2 f 12,w2 f 14,w2 f 16,w2 f 18]:=fun n hn=>by
  have e1:(az f).id=w2 f 4:=by unfold az lR;dsimp only;(repeat' split)<;>rfl
  have e2:(az f).av=b1 f 8:=by unfold az lR;dsimp only;(repeat' split)<;>rfl
  have e3:(az f).aB=w4 f 12:=by unfold az lR;dsimp only;(repeat' split)<;>rfl
  have e4:(az f).dst=w4 f 16:=by unfold az lR;dsimp only;(repeat' split)<;>rfl
  unfold gN
  rw[e1,e2,e3,e4,Aw,q1,q2,q3,q4,a3,a1,wo,hw8,a0,a2]
  congr 2
  omega
 have EU:∀ n:Nat,(n:Int) + 20=f.length→lL (w2 f 10) (Qz (gN (az f) n 0)):=fun n hn=>by
  have e1:(Qz (gN (az f) n (w2 f 10)):Int)=w2 f 10 + Qz (gN (az f) n 0):=by
   unfold gN;simp only[Qz];omega
  have e2:f.take 20=fr (gN (az f) n (w2 f 10)) []:=by
   rw[wG n hn]
   conv=>lhs;rw[a7]
   rfl
  have e3:=wE [] (gN (az f) n (w2 f 10))
  rw[← e2]at e3
  obtain ⟨p1,p2⟩:=XO o1
  have:Xh []=0:=rfl
  refine ⟨c0.1,c0.2,?_⟩
  omega
 have uz:(f.drop 20).length=f.length - 20:=List.length_drop
 have fin:∀ k:Int,0≤k∧k≤65535→f.drop 20=fr (jg (az f) k) (az f).body→Xl (az f)=(f.drop 20).length→((az f).af=17→k≠0)→∃ c k:Int,f=fr (gN (az f) (Xl (az f)) c++jg (az f) k) (az f).body∧lL c (Qz (gN (az f) (Xl (az f)) 0))∧lL k (j3 (az f))∧((az f).af=17→k≠0):=fun k hk hs hn Im=>by
  have XS:((Xl (az f):Nat):Int) + 20=f.length:=by rw[hn,uz];omega
  refine ⟨w2 f 10,k,?_,EU _ XS,Ydi hs hk hn ?_,Im⟩
  ·rw[wG _ XS,← yV,← hs];exact a7
  ·have e3:(az f).aB=w4 f 12:=by unfold az lR;dsimp only;(repeat' split)<;>rfl
   have e4:(az f).dst=w4 f 16:=by unfold az lR;dsimp only;(repeat' split)<;>rfl
   rw[Aw,e3,e4];exact o2
 unfold G8 at g8
 unfold G9 at g9
 unfold qG at g10
 unfold G6 at g6
 rcases (Wc he).1 with h1|h1|h1
 ·rw[h1]at hN
  have yX:b1 f 9=1:=by rw[← Aw];exact h1
  have ie:8≤(f.drop 20).length:=by rw[yX]at g6;simpa using g6
  have wH:=ES 4 (f.drop 20) ae
  rw[XQ]at wH
  have hw:w2 (f.drop 20) 0=b1 (f.drop 20) 0 * 256 + b1 (f.drop 20) 1:=Il (f.drop 20) 0 ae
  have b2:=Dd (f.drop 20) 2 ae
  have hK:(az f).body=(f.drop 20).drop 8∧(az f).flags=b1 (f.drop 20) 0∧(az f).seq=w2 (f.drop 20) 6∧(az f).ai + (az f).aj=w2 (f.drop 20) 4:=by
   unfold az
   rw[if_pos yX]
   refine ⟨rfl,rfl,rfl,?_⟩
   dsimp only
   split<;>omega
  obtain ⟨k1,k2,k3,k4⟩:=hK
  refine fin (w2 (f.drop 20) 2) b2 ?_ ?_ (fun h=>by omega)
  ·unfold jg
   rw[if_pos h1,k1,k2,k3,k4]
   rw[show b1 (f.drop 20) 0 * 256=w2 (f.drop 20) 0 by omega]
   exact wH
  ·rw[hN,k1,List.length_drop];simp;omega
 ·rw[h1]at hN
  have yX:b1 f 9=6:=by rw[← Aw];exact h1
  have ie:20≤(f.drop 20).length:=by rw[yX]at g6;simpa using g6
  have wH:=ES 10 (f.drop 20) ae
  rw[XR]at wH
  have hw:w2 (f.drop 20) 12=b1 (f.drop 20) 12 * 256 + b1 (f.drop 20) 13:=Il (f.drop 20) 12 ae
  have b2:=Dd (f.drop 20) 16 ae
  obtain ⟨r1,r2⟩:=Ik (f.drop 20) 4 ae
  obtain ⟨r3,r4⟩:=Ik (f.drop 20) 8 ae
  have hK:az f={ lR f with ai:=w2 (f.drop 20) 0,aj:=w2 (f.drop 20) 2,seq:=w4 (f.drop 20) 4,aL:=w4 (f.drop 20) 8,win:=w2 (f.drop 20) 14,flags:=b1 (f.drop 20) 13,body:=(f.drop 20).drop 20 }:=by
   unfold az
   rw[if_neg ae,if_neg ae]
  refine fin (w2 (f.drop 20) 16) b2 ?_ ?_ (fun h=>by omega)
  ·unfold jg
   rw[if_neg ae,if_neg ae,hK]
   dsimp only
   rw[r1,r2,r3,r4,show 80 * 256 + b1 (f.drop 20) 13=w2 (f.drop 20) 12 by omega,show (0:Int)=w2 (f.drop 20) 18 by omega]
   exact wH
  ·rw[hN,hK];simp;omega
 ·rw[h1]at hN
  have yX:b1 f 9=17:=by rw[← Aw];exact h1
  have ie:8≤(f.drop 20).length:=by rw[yX]at g6;simpa using g6
  have wH:=ES 4 (f.drop 20) ae
  rw[XQ]at wH
  have b2:=Dd (f.drop 20) 6 ae
  have hK:az f={ lR f with ai:=w2 (f.drop 20) 0,aj:=w2 (f.drop 20) 2,body:=(f.drop 20).drop 8 }:=by
   unfold az
   rw[if_neg ae,if_pos yX]
  refine fin (w2 (f.drop 20) 6) b2 ?_ ?_ (fun h=>by omega)
  ·unfold jg
   rw[if_neg ae,if_pos h1,hK]
   dsimp only
   rw[show (8:Int) + (((f.drop 20).drop 8).length:Nat)=w2 (f.drop 20) 4 by rw[List.length_drop];omega]
   exact wH
  ·rw[hN,hK];simp;omega
theorem XT (T:Int) (h:0≤T):lL (cI T) T:=by
 by_cases h0:T=0
 ·subst h0;exact ⟨by decide,by decide,by decide⟩
 ·have:=sX T ae
  have:=sW T
  exact ⟨this.1,this.2,by omega⟩
theorem OU {c c0 T m1 n1 m2 n2 m3 n3:Int} (hc:lL c T) (jy:lL c0 T) (nG:0≤m1∧m1≤65535) (sO:0≤n1∧n1≤65535) (jI:0≤m2∧m2≤65535) (oI:0≤n2∧n2≤65535) (EP:0≤m3∧m3≤65535) (ER:0≤n3∧n3≤65535) (h:m3≠65535∨n3≠0) :
  Qb (Qb (Qb c m1 n1) m2 n2) m3 n3=Qb (Qb (Qb c0 m1 n1) m2 n2) m3 n3:=by
 obtain ⟨x1,x2,x3⟩:=yU _ _ _ _ (yU _ _ _ _ hc nG sO) jI oI
 obtain ⟨y1,y2,y3⟩:=yU _ _ _ _ (yU _ _ _ _ jy nG sO) jI oI
 exact OT _ _ _ _ ⟨x1,x2⟩ ⟨y1,y2⟩ EP ER ae h
def Io (p:Pk) (side:Int):Int:=if side=0 then p.ai else p.aj
theorem Xpr {f:List UInt8} (h:bZ f=0) {side addr port:Int} (ht:Ug (az f) side addr port=0) (hq:port≠0∨Io (az f) side≠65535):Yc f (az f).af (az f).av (oE side) (oF (az f).af side) addr port=Xk (oG (az f) side addr port):=by
 have mf:=(ET h).e
 rw[← Xgk _ mf side addr port ht]
 obtain ⟨c,k,hf,hc,hk,Im⟩:=Xy3 h
 generalize az f=p at *
 obtain ⟨hp,hr,hl,lS⟩:=Wc mf
 have W8:=hr
 obtain ⟨r1,r2,r3,r4,r5,r6,r7,r8,r9,ic⟩:=W8
 have hN:=Kf p hp
 have jK:=oZ p hp ae
 have hb:=Wm p hp ae
 have jy:=XT (Qz (gN p (Xl p) 0)) (Ic _)
 have mU:0≤j3 p:=by
  have a:=Ic (rQ p (Xl p))
  have b:=Ic (jg p 0)
  unfold j3
  omega
 have gX:lL (gQ p) (j3 p):=by
  obtain ⟨a1,a2,a3⟩:=XT (j3 p) mU
  rw[jK]
  split
  ·exact ⟨by decide,by decide,by omega⟩
  ·exact ⟨a1,a2,a3⟩
 have EV:p.af=17→k=gQ p:=fun e=>by
  obtain ⟨a1,a2,a3⟩:=hk
  obtain ⟨b1,b2,b3⟩:=gX
  have c1:=Im e
  have c2:(gQ p:Int)≠0:=by
   rw[jK]
   split
   ·decide
   ·rename_i hx
    exact fun e2=>hx ⟨e,e2⟩
  omega
 rw[hf,hb]
 clear hf hb Im jK mU
 generalize cI (Qz (gN p (Xl p) 0))=c0 at *
 generalize Qz (gN p (Xl p) 0)=T1 at *
 generalize j3 p=T2 at *
 generalize (gQ p:Int)=k0 at *
 unfold Ug at ht
 split at ht
 ·cases ht
 split at ht
 ·cases ht
 split at ht
 ·cases ht
 rename_i t1 t2 t3
 obtain ⟨af,aB,ai,dst,aj,av,id,flags,seq,aL,win,body⟩:=p
 unfold Io at hq
 dsimp only at *
 have key:∀ m1 n1 m2 n2 m3:Int,0≤m1∧m1≤65535→0≤n1∧n1≤65535→0≤m2∧m2≤65535→0≤n2∧n2≤65535→(m3=av * 256 + af)→Qb (Qb (Qb c m1 n1) m2 n2) m3 ((av - 1) * 256 + af)=Qb (Qb (Qb c0 m1 n1) m2 n2) m3 ((av - 1) * 256 + af):=fun m1 n1 m2 n2 m3 b1 b2 b3 b4 e=>OU hc jy b1 b2 b3 b4 ae ae ae
 unfold oE oF gN jg
 by_cases hs:side=0
 ·rw[if_pos hs]at hq ⊢
  rcases hp with rfl|rfl|rfl
  ·simp only[hs,reduceCtorEq,Int.reduceEq,if_true,if_false,↓reduceIte,List.cons_append,List.nil_append]
   rw[OK,OK,key _ _ _ _ _ ae ae ae ae rfl,OT k k0 (ai + aj) port ⟨hk.1,hk.2.1⟩ ⟨gX.1,gX.2.1⟩ (by unfold Wu at lS;dsimp only at lS;omega) ae (by have:=hk.2.2;have:=gX.2.2;omega) (by unfold Wu at lS;dsimp only at lS;omega)]
  ·simp only[hs,reduceCtorEq,Int.reduceEq,if_true,if_false,↓reduceIte,List.cons_append,List.nil_append]
   rw[OO,OO,key _ _ _ _ _ ae ae ae ae rfl]
   rw[show aB / 65536 % 65536=aB / 65536 by omega,show aB % 65536 % 65536=aB % 65536 by omega]
   rw[OU (m1:=aB / 65536) (n1:=addr / 65536) (m2:=aB % 65536) (n2:=addr % 65536) (m3:=ai) (n3:=port) hk gX ae ae ae ae ae ae ae]
  ·simp only[hs,reduceCtorEq,Int.reduceEq,if_true,if_false,↓reduceIte,List.cons_append,List.nil_append]
   rw[OM,OM,key _ _ _ _ _ ae ae ae ae rfl,EV rfl]
 ·rw[if_neg hs]at hq ⊢
  rcases hp with rfl|rfl|rfl
  ·simp only[hs,reduceCtorEq,Int.reduceEq,if_true,if_false,↓reduceIte,List.cons_append,List.nil_append]
   rw[OL,OL,key _ _ _ _ _ ae ae ae ae rfl,OT k k0 (ai + aj) port ⟨hk.1,hk.2.1⟩ ⟨gX.1,gX.2.1⟩ (by unfold Wu at lS;dsimp only at lS;omega) ae (by have:=hk.2.2;have:=gX.2.2;omega) (by unfold Wu at lS;dsimp only at lS;omega)]
  ·simp only[hs,reduceCtorEq,Int.reduceEq,if_true,if_false,↓reduceIte,List.cons_append,List.nil_append]
   rw[OP,OP,key _ _ _ _ _ ae ae ae ae rfl]
   rw[show dst / 65536 % 65536=dst / 65536 by omega,show dst % 65536 % 65536=dst % 65536 by omega]
   rw[OU (m1:=dst / 65536) (n1:=addr / 65536) (m2:=dst % 65536) (n2:=addr % 65536) (m3:=aj) (n3:=port) hk gX ae ae ae ae ae ae ae]
  ·simp only[hs,reduceCtorEq,Int.reduceEq,if_true,if_false,↓reduceIte,List.cons_append,List.nil_append]
   rw[ON,ON,key _ _ _ _ _ ae ae ae ae rfl,EV rfl]
theorem XU {f:List UInt8} (h:bZ f=0) {side addr port:Int} (ht:Ug (az f) side addr port=0) (hq:port≠0∨Io (az f) side≠65535):bZ (Yz f side addr port)=0∧az (Yz f side addr port)=oG (az f) side addr port:=by
 unfold Yz
 rw[if_neg (by rw[h];simp),if_neg (by rw[ht];simp),Xpr h ht hq]
 exact Xb0 _ (Qzf _ (ET h).e side addr port ht)
section
variable {P:Program} {c:Cx} {h h1 ex:List (Nat × Bk)} {m n:Nat} {v:Bool} {d:Option Nat} {kk:PK} {f:FuncId} {xs:List TV} {args:List AV} {r:AV} {t:List (Nat × AV)} {r0:List bG} {K:St→Prop} {gd:Option (Nat × Bool)}
theorem Xwf {anc:List Nat} {fs:List bp} (hq:GD P c.gl f args h m (List.range m) r h1) (H:HL h m) (H1:HL h1 m) (hr:Qf m r) (hn:m≤n) (hex:∀ q ∈ ex,m≤q.1∧q.1 < n) (hk:kk=(bif v then .cY else .call f))
  (hb:gB (⟨t,ex++h,n⟩:St).fs gd=some true∧fx (⟨t,ex++h,n⟩:St).fs gd)
  (hc:Qt none (aF c.gl (⟨t,ex++h,n⟩:St).fs xs)∧mG v f ((aF c.gl (⟨t,ex++h,n⟩:St).fs xs).map Qj)=some (f,args)∧ah m args) (hx:XD P c anc r0 (⟨jj gd++Xf xs,gP id m n,d.toList,gP id m n⟩::fs) K (St.bD ⟨t,ex++h1,n + m⟩ d r)):Zi P c anc (.pd d kk xs gd) r0 fs K ⟨t,ex++h,n⟩:=by
 have aX:=Ba (v:=v) H hn (fun b hb=>List.mem_range.1 hb) hex hc
 have hA:=xy (d:=d) hq aX hk H1 hr
 rw[Jw,Hs H1 hr]at hA
 exact ⟨_,_,Cp hb.1 hb.2 hA,hx⟩
end
structure yY (m:Mp):Prop where
 af:m.af=1∨m.af=6∨m.af=17
 s:0≤m.s∧m.s < 8
 aR:0≤m.aR∧m.aR≤65535
 a:0≤m.a∧m.a < 3
 port:1024≤m.port∧m.port < 1072
theorem GT.u9 {t:Tb} (h:GT t) {m:Mp} (hm:m ∈ t.maps):yY m:=by
 have OV:=h.maps m hm
 obtain ⟨h1,h2,h3⟩:=Kx OV.1.1
 exact ⟨h1,h2,h3,OV.1.2.2,(LY OV.1.2.1).2.2⟩
theorem Xst {f:List UInt8} (h:bZ f=0):Kk (az f)∧¬ Wu (az f):=⟨(Wc (ET h).e).2.1,(Wc (ET h).e).2.2.2⟩
theorem Xvm {f:List UInt8} {m:Mp} (hm:yY m) (he:bZ f=0) (hk:¬ ((az f).af=1∧(az f).flags≠8)) (ht:(az f).av≠1) :
  bZ (Yz f 0 (3405803777 + m.a) m.port)=0∧az (Yz f 0 (3405803777 + m.a) m.port)=oG (az f) 0 (3405803777 + m.a) m.port:=by
 have h1:=hm.a
 have h2:=hm.port
 refine XU he ?_ (.inl ae)
 unfold Ug
 rw[if_neg ae,if_neg ht,if_neg ae]
theorem Yam {f:List UInt8} {m:Mp} (hm:yY m) (he:bZ f=0) (hk:¬ ((az f).af=1∧(az f).flags≠0)) (ht:(az f).av≠1) (hd:(az f).aj=m.port) :
  bZ (Yz f 1 (167772161 + m.s) m.aR)=0∧az (Yz f 1 (167772161 + m.s) m.aR)=oG (az f) 1 (167772161 + m.s) m.aR:=by
 have h1:=hm.s
 have h2:=hm.aR
 have h3:=hm.port
 refine XU he ?_ (.inr ?_)
 ·unfold Ug
  rw[if_neg ae,if_neg ht,if_neg ae]
 ·unfold Io
  rw[if_neg aI,hd]
  omega
structure mW (S:NS) (f:List UInt8) (m:Mp):Prop where
 mem:m ∈ S.tb.maps
 e:bZ f=0
 back:S.tb.maps.find? (Wa (az f).af ((az f).dst - 3405803777) (az f).aj)=some m
 dst:0≤(az f).dst - 3405803777∧(az f).dst - 3405803777 < 3
 yZ:¬ ((az f).af=1∧(az f).flags≠0)
 av:(az f).av≠1
 is:(S.aR f).1=⟨0,Yz f 1 (167772161 + m.s) m.aR,true,[]⟩
 tb:(S.aR f).2.tb=S.tb
theorem XV (S:NS) (f:List UInt8):(∃ e,(S.aR f).1=bT e∧e≠0∧(S.aR f).2=S)∨∃ m,mW S f m:=by
 have hS:∀ e:Int,e≠0→((bT e,S):Rp × NS)=S.aR f→(∃ e,(S.aR f).1=bT e∧e≠0∧(S.aR f).2=S)∨∃ m,mW S f m:=fun e he h=>.inl ⟨e,by rw[← h],he,by rw[← h]⟩
 obtain ⟨x,hx⟩:∃ x,x=S.aR f:=⟨_,rfl⟩
 have jd:=hx
 rw[HH]at hx
 split at hx
 ·rename_i h;exact hS _ h (hx ▸ jd)
 rename_i h1
 split at hx
 ·exact hS 7 aI (hx ▸ jd)
 rename_i h2
 split at hx
 ·exact hS 4 aI (hx ▸ jd)
 rename_i h3
 split at hx
 ·exact hS 12 aI (hx ▸ jd)
 rename_i h4
 split at hx
 ·exact hS 7 aI (hx ▸ jd)
 rename_i m hm
 have fin:∀ S':NS,S'.tb=S.tb→x=(⟨0,Yz f 1 (167772161 + m.s) m.aR,true,[]⟩,S')→(∃ e,(S.aR f).1=bT e∧e≠0∧(S.aR f).2=S)∨∃ m,mW S f m:=fun S' ht e =>
  .inr ⟨m,List.mem_of_find?_eq_some hm,Decidable.not_not.1 h1,hm,by omega,h3,h4,by rw[← jd,e],by rw[← jd,e];exact ht⟩
 split at hx
 ·exact fin (S.goes _ _ _) rfl hx
 split at hx
 ·exact hS 11 aI (hx ▸ jd)
 split at hx
 ·exact hS 11 aI (hx ▸ jd)
 ·exact fin (S.begin _) rfl hx
theorem mW.port {S:NS} {f:List UInt8} {m:Mp} (h:mW S f m):m.af=(az f).af∧m.a=(az f).dst - 3405803777∧m.port=(az f).aj:=by
 have:=List.find?_some h.back
 simp only[Wa,Bool.and_eq_true,beq_iff_eq]at this
 exact ⟨this.1.1,this.1.2,this.2⟩
theorem mW.read {S:NS} {f:List UInt8} {m:Mp} (h:mW S f m) (hS:NJ S):bZ (S.aR f).1.frame=0∧az (S.aR f).1.frame=oG (az f) 1 (167772161 + m.s) m.aR:=by
 rw[h.is]
 exact Yam (hS.gt.u9 h.mem) h.e h.yZ h.av h.port.2.2.symm
theorem cj.lA {t:Tb} {af:Int} {S:Nat} {aR:Int} {x:Tb × Mp × Bool × Int} (h:cj t af S aR x):∀ o ∈ t.maps,o ∈ x.1.maps:=by
 cases h with
 | no e lj=>exact fun m hm=>hm
 | old m hf=>exact fun m hm=>hm
 | own port=>exact fun m hm=>List.mem_append_left _ hm
 | new b k=>exact fun m hm=>List.mem_append_left _ hm
structure y9 (S:NS) (f:List UInt8) (x:Rp × NS) (m:Mp) (es:List Ev) (S1:NS):Prop where
 ni:NI S1
 mem:m ∈ S1.tb.maps
 e:bZ f=0
 aB:0≤(az f).aB - 167772161∧(az f).aB - 167772161 < 8
 fwd:m.af=(az f).af∧m.s=(az f).aB - 167772161∧m.aR=(az f).ai
 yZ:¬ ((az f).af=1∧(az f).flags≠8)
 av:(az f).av≠1
 is:x=S1.dP f m es
 sIa:∃ q ∈ S1.fl,q.2.map=m∧q.2.rem=(az f).dst∧q.2.rport=(az f).aj
 ref:S1.ref=S.ref
 told:S1.told=S.told
 now:S1.now=S.now
 sub:∀ o ∈ S.tb.maps,o ∈ S1.tb.maps
theorem XW {S:NS} (hS:NI S) (f:List UInt8) (d:Int):(∃ e,S.out f d=(bT e,S)∧e≠0)∨(∃ e,e≠0∧bZ f=0∧S.out f d=S.refuse f e)∨∃ m es S1,y9 S f (S.out f d) m es S1:=by
 obtain ⟨x,hx⟩:∃ x,x=S.out f d:=⟨_,rfl⟩
 rw[← hx]
 rw[Eh]at hx
 split at hx
 ·rename_i h;exact .inl ⟨_,hx,h⟩
 rename_i h1
 have he:bZ f=0:=Decidable.not_not.1 h1
 split at hx
 ·exact .inl ⟨7,hx,by decide⟩
 rename_i h2
 split at hx
 ·exact .inl ⟨4,hx,by decide⟩
 rename_i h3
 split at hx
 ·exact .inl ⟨12,hx,by decide⟩
 rename_i h4
 split at hx
 ·rename_i hk
  split at hx
  ·rename_i m hm
   refine .inr (.inr ⟨m,[],_,hS.goes (S.cQ (az f)) (az f) false,List.mem_of_find?_eq_some hm,he,by omega,?_,h3,h4,hx,?_,rfl,rfl,rfl,fun o ho=>ho⟩)
   ·have:=List.find?_some hm
    simp only[Zd,Bool.and_eq_true,beq_iff_eq]at this
    exact ⟨this.1.1,this.1.2,this.2⟩
   ·have hk2:S.findF m (az f).dst (az f).aj≠0:=by unfold NS.cQ at hk;rw[hm]at hk;exact hk
    obtain ⟨q,hq,e,q1,q2,q3⟩:=Ek hk2
    refine ⟨_,List.mem_map.2 ⟨q,hq,rfl⟩,?_⟩
    split<;>exact ⟨q1,q2,q3⟩
  ·rename_i hm
   unfold NS.cQ at hk
   rw[hm]at hk
   exact absurd rfl hk
 rename_i hk
 have gX:S.cQ (az f)=0:=Decidable.not_not.1 hk
 split at hx
 ·exact .inl ⟨11,hx,by decide⟩
 split at hx
 ·exact .inr (.inl ⟨6,by decide,he,hx⟩)
 rename_i hl
 split at hx
 ·rename_i ho;exact .inr (.inl ⟨_,ho,he,hx⟩)
 rename_i ho
 have ho:=Decidable.not_not.1 ho
 obtain ⟨S0,mU,_,bw,bl,cd,hb⟩:=hS.opened he h2 gX ae ho
 have hb:=hb (pU (az f).af)
 obtain ⟨aG,q1,q2,q3,_⟩:=bl.has (by rw[← mU];exact ho)
 have ct:=bl.lA
 clear bl cd
 rw[← mU]at hb aG q1 q2 q3 ct
 generalize S.tb.cE (az f).af ((az f).aB - 167772161) (az f).ai d=o at *
 exact .inr (.inr ⟨o.2.1,_,_,hb,aG,he,by omega,⟨q1,q2,q3⟩,h3,h4,hx,⟨_,List.mem_append_right _ (List.mem_singleton.2 rfl),rfl,rfl,rfl⟩,rfl,rfl,rfl,ct⟩)
theorem y9.read {S:NS} {f:List UInt8} {x:Rp × NS} {m:Mp} {es:List Ev} {S1:NS} (h:y9 S f x m es S1):bZ (Yz f 0 (3405803777 + m.a) m.port)=0∧az (Yz f 0 (3405803777 + m.a) m.port)=oG (az f) 0 (3405803777 + m.a) m.port :=
 Xvm (h.ni.gt.u9 h.mem) h.e h.yZ h.av
theorem Qzw (o:List Int) (e:Ev) (l:List Ev):Uq o (e::l)=match uN o e with
 | (some o',_)=>Uq o' l
 | (none,k)=>(List.replicate 18 0,k):=rfl
theorem Qxg {o:List Int} {e:Ev} {k:Int} (h:uN o e=(none,k)):k≠0:=by
 unfold uN at h
 split at h
 ·have:=congrArg Prod.snd h;dsimp only at this;omega
 dsimp only at h
 split at h
 ·have:=congrArg Prod.snd h;dsimp only at this;omega
 split at h
 ·have:=congrArg Prod.snd h;dsimp only at this;omega
 ·have:=congrArg Prod.fst h;cases this
theorem OX:∀ (a b:List Ev) (o o1:List Int),Uq o a=(o1,0)→Uq o (a++b)=Uq o1 b
 | [],b,o,o1,h=>by
  obtain rfl:o=o1:=congrArg Prod.fst h
  rfl
 | e::a,b,o,o1,h=>by
  rw[List.cons_append]
  rw[Qzw]at h ⊢
  cases hs:uN o e with
  | mk x k =>
   rw[hs]at h
   cases x with
   | some o'=>exact OX a b o' o1 h
   | none=>exact absurd (congrArg Prod.snd h) (Qxg hs)
theorem XX {o o1:List Int} {e:Ev} (h:uN o e=(some o1,0)):Uq o [e]=(o1,0):=by
 unfold Uq
 rw[h]
 rfl
structure mX (p q:ax) (t:Int) (es:List Ev):Prop where
 one:Br t es
 own:Uq p.own es=(q.own,0)
theorem mX.nil {p q:ax} {t:Int} (h:p.own=q.own):mX p q t []:=⟨fun e he=>absurd he (by simp),by rw[← h];rfl⟩
theorem mX.app {p q r:ax} {t:Int} {a b:List Ev} (h:mX p q t a) (g:mX q r t b):mX p r t (a++b) :=
 ⟨fun e he=>(List.mem_append.1 he).elim (h.one e) (g.one e),by rw[OX a b _ _ h.own];exact g.own⟩
theorem XY {t s a b:Int} {f:Bool} (h:Zk t s a b=true):(⟨t,s,a,b,f⟩:Ev).bQ:=(Ow ⟨t,s,a,b,f⟩).1 h
theorem XZ {t:Tb} (hw:t.aq.wf) (pr s i a d:Int) (n:Nat) (hn:n≤549755813888) :
  mX t.aq (t.tk pr s i a d).1.aq n (if (t.tk pr s i a d).2.2.1 then [⟨n,(t.tk pr s i a d).2.1.s,(t.tk pr s i a d).2.1.a,Xb (t.tk pr s i a d).2.1.port,false⟩] else []):=by
 unfold Tb.tk
 split
 ·exact .nil rfl
 ·rename_i h0
  have h0:=Decidable.not_not.1 h0
  unfold ax.take at h0 ⊢
  split at h0
  rotate_left
  ·exact absurd h0 au
  split at h0
  rotate_left
  ·exact absurd h0 au
  rename_i hg hr
  obtain ⟨b,hb,jU⟩:=AG a hr.1
  subst hb
  simp only[Int.toNat_natCast]at h0 ⊢
  split at h0
  ·exact absurd h0 au
  split at h0
  ·exact absurd h0 au
  rename_i hd hl
  obtain ⟨hk,hz⟩:=SD t.aq hw b d jU hl
  rw[if_pos hg,if_pos hr]
  simp only[hd,hl,if_false,if_neg hd]
  have hp:=(GV (q:=t.aq.jR b d) (i:=0) hk aI).2
  have hp:Xb (1024 + (t.aq.jR b d:Int) * 8)=t.aq.jR b d:=by simpa using hp
  have bc:Zk n s b (t.aq.jR b d)=true:=by
   unfold Zk
   simp only[Bool.and_eq_true,decide_eq_true_eq]
   omega
  show mX t.aq (t.aq.put b (t.aq.jR b d) (s + 1)) n [⟨n,s,b,Xb (1024 + (t.aq.jR b d:Int) * 8),false⟩]
  rw[hp]
  refine ⟨fun e he=>?_,XX ?_⟩
  ·obtain rfl:=List.mem_singleton.1 he
   exact ⟨XY bc,rfl⟩
  ·unfold uN
   rw[if_neg (by rw[bc];decide)]
   have hi:((b:Int) * 6 + (t.aq.jR b d:Int)).toNat=b * 6 + t.aq.jR b d:=by omega
   dsimp only
   rw[hi,if_neg,if_neg]
   ·rfl
   ·intro h;cases h.1
   ·intro h;exact h.2 hz
theorem Xyi {t:Tb} (hw:t.aq.wf) (pr s i d:Int) (n:Nat) (hn:n≤549755813888) :
  mX t.aq (t.cE pr s i d).1.aq n (if (t.cE pr s i d).2.2.1 then [⟨n,(t.cE pr s i d).2.1.s,(t.cE pr s i d).2.1.a,Xb (t.cE pr s i d).2.1.port,false⟩] else []):=by
 unfold Tb.cE
 split
 ·exact .nil rfl
 split
 ·exact .nil rfl
 split
 ·exact .nil rfl
 split
 ·exact .nil rfl
 split
 ·exact .nil rfl
 split
 ·exact XZ hw _ _ _ _ _ n hn
 split
 ·exact .nil rfl
 ·exact XZ hw _ _ _ _ _ n hn
theorem Xzw {t:Tb} (ht:GT t) (hw:t.wf) {m:Mp} (hm:m ∈ t.maps) (n:Nat) (hn:n≤549755813888) :
  mX t.aq (t.cls m).1.aq n (if (t.cls m).2.1 then [⟨n,m.s,m.a,Xb m.port,true⟩] else []):=by
 unfold Tb.cls
 split
 ·exact .nil rfl
 split
 ·exact .nil rfl
 ·rename_i i _
  split
  ·exact .nil rfl
  ·obtain ⟨bW,_,gR⟩:=ht.maps m hm
   obtain ⟨k1,k2⟩:=vZ m.port
   have X0:=ht.u9 hm
   have ha:=X0.a
   have hs:=X0.s
   have bc:Zk n m.s m.a (Xb m.port)=true:=by
    unfold Zk
    simp only[Bool.and_eq_true,decide_eq_true_eq]
    omega
   have DE:t.aq.bX m.s m.a (Xb m.port)=(t.aq.put m.a.toNat (Xb m.port).toNat 0,0):=by
    unfold ax.bX
    rw[if_pos ht.aq,if_pos ⟨by unfold Wb;simp;omega,k1,k2,hs.1,gR⟩]
   have hp:((t.del i).bX m).aq=t.aq.put m.a.toNat (Xb m.port).toNat 0:=by
    unfold Tb.bX
    have:(t.del i).aq=t.aq:=rfl
    rw[this,DE]
    split<;>rfl
   show mX t.aq ((t.del i).bX m).aq n [⟨n,m.s,m.a,Xb m.port,true⟩]
   rw[hp]
   refine ⟨fun e he=>?_,XX ?_⟩
   ·obtain rfl:=List.mem_singleton.1 he
    exact ⟨XY bc,rfl⟩
   ·unfold uN
    rw[if_neg (by rw[bc];decide)]
    have hi:(m.a * 6 + Xb m.port).toNat=m.a.toNat * 6 + (Xb m.port).toNat:=by omega
    dsimp only
    rw[hi,if_neg,if_neg]
    ·rfl
    ·intro h;exact h.2 gR
    ·intro h;cases h.1
theorem Xu8 {x:NS × List Ev} (hx:NJ x.1) (k:Int):∃ es,(cu x k).2=x.2++es∧mX x.1.tb.aq (cu x k).1.tb.aq x.1.now es:=by
 unfold cu
 split
 ·exact ⟨[],(List.append_nil _).symm,.nil rfl⟩
 rename_i q hq
 dsimp only
 split
 ·exact ⟨[],(List.append_nil _).symm,.nil rfl⟩
 ·have hm:q.2.map ∈ x.1.tb.maps:=hx.kJ q (List.mem_of_find?_eq_some hq)
  have:=Xzw hx.gt hx.wf hm x.1.now hx.now
  refine ⟨_,?_,this⟩
  dsimp only
  split
  ·rfl
  ·rw[List.append_nil]
theorem X1 {S:NS} (hS:NI S) {d:Int} (hd:¬ (d < 1∨549755813888 - S.now < d)):∀ i,i≤(S.ended d).length→mX S.tb.aq (S.j2 d i).1.tb.aq (S.now + d.toNat:Nat) (S.j2 d i).2
 | 0,_=>.nil rfl
 | i + 1,h=>by
  have ih:=X1 hS hd i ae
  have hE:=N6 hS hd i
  obtain ⟨es,e,he⟩:=Xu8 (x:=S.j2 d i) hE.nj ((S.ended d)[i])
  rw[V2 S d i h,e]
  have eY:((S.j2 d i).1.now:Int)=((S.now + d.toNat:Nat):Int):=by rw[hE.now];rfl
  rw[eY]at he
  exact ih.app he
structure j5 (S S':NS) (r:Rp) (es:List Ev):Prop where
 log:r.log=jJ S.told es
 told:S'.told=S.told + es.length
 now:S.now≤S'.now
 len:es.length≤48
 ev:mX S.tb.aq S'.tb.aq S'.now es
theorem j5.none {S S':NS} {r:Rp} (h1:r.log=[]) (h2:S'.told=S.told) (h3:S'.now=S.now) (h4:S'.tb.aq.own=S.tb.aq.own):j5 S S' r [] :=
 ⟨by rw[h1];rfl,h2,by rw[h3];exact Nat.le_refl _,by simp,.nil h4.symm⟩
theorem X2 (S:NS) (f:List UInt8):(S.aR f).1.log=[]∧(S.aR f).2.told=S.told∧(S.aR f).2.now=S.now∧(S.aR f).2.tb=S.tb:=by
 rw[HH]
 repeat' split
 all_goals exact ⟨rfl,rfl,rfl,rfl⟩
theorem X3 (S:NS) (f:List UInt8) (m:Mp) (es:List Ev):(S.dP f m es).1.log=jJ S.told es∧(S.dP f m es).2.told=S.told + es.length∧(S.dP f m es).2.now=S.now∧(S.dP f m es).2.tb=S.tb:=by
 rw[Eo]
 split
 ·obtain ⟨_,h2,h3,h4⟩:=X2 (S.log es) (Yz f 0 (3405803777 + m.a) m.port)
  exact ⟨rfl,h2,h3,h4⟩
 ·exact ⟨rfl,rfl,rfl,rfl⟩
theorem X4 (S:NS) (f:List UInt8) (e:Int):j5 S (S.refuse f e).2 (S.refuse f e).1 []:=by
 unfold NS.refuse
 split<;>exact .none rfl rfl rfl rfl
theorem Xrz {S:NS} (hS:NJ S) (f:List UInt8) (d:Int):∃ es,j5 S (S.out f d).2 (S.out f d).1 es:=by
 rw[Eh]
 split
 ·exact ⟨[],.none rfl rfl rfl rfl⟩
 split
 ·exact ⟨[],.none rfl rfl rfl rfl⟩
 split
 ·exact ⟨[],.none rfl rfl rfl rfl⟩
 split
 ·exact ⟨[],.none rfl rfl rfl rfl⟩
 split
 ·split
  ·rename_i m _
   obtain ⟨h1,h2,h3,h4⟩:=X3 (S.goes (S.cQ (az f)) (az f) false) f m []
   exact ⟨[],.none h1 h2 h3 (by rw[h4];rfl)⟩
  ·exact ⟨[],.none rfl rfl rfl rfl⟩
 split
 ·exact ⟨[],.none rfl rfl rfl rfl⟩
 split
 ·exact ⟨[],X4 ..⟩
 split
 ·exact ⟨[],X4 ..⟩
 ·unfold NS.opened
  have hE:=Xyi hS.wf.aq (az f).af ((az f).aB - 167772161) (az f).ai d S.now hS.now
  generalize S.tb.cE (az f).af ((az f).aB - 167772161) (az f).ai d=o at *
  refine ⟨if o.2.2.1 then [⟨S.now,o.2.1.s,o.2.1.a,Xb o.2.1.port,false⟩] else [],?_⟩
  obtain ⟨h1,h2,h3,h4⟩:=X3 (({ S with tb:=o.1 }:NS).begin ⟨o.2.1,(az f).dst,(az f).aj,pU (az f).af,0,0⟩) f o.2.1 (if o.2.2.1 then [({ S with tb:=o.1 }:NS).ev o.2.1 false] else [])
  refine ⟨h1,h2,by rw[h3];exact Nat.le_refl _,by split<;>simp,?_⟩
  rw[h3,h4]
  exact hE
theorem Xnu {S:NS} (hS:NK S) (a:Ac):∃ es,j5 S (S.step a).2 (S.step a).1 es:=by
 have h1:=hS.toNI.gI (S.aE + 1)
 unfold NS.step
 split
 ·exact ⟨[],.none rfl rfl rfl rfl⟩
 dsimp only
 split
 ·obtain ⟨es,h⟩:=Xrz h1.toNJ a.frame a.draw
  exact ⟨es,h.log,h.told,h.now,h.len,h.ev⟩
 split
 ·obtain ⟨g1,g2,g3,g4⟩:=X2 { S with aE:=S.aE + 1 } a.frame
  exact ⟨[],.none g1 g2 g3 (by rw[g4])⟩
 split
 ·rw[Ei]
  split
  ·exact ⟨[],.none rfl rfl rfl rfl⟩
  ·rename_i hd
   obtain ⟨es,e,hE,_,hl⟩:=h1.rH hd
   have fa:=X1 h1 hd _ (Nat.le_refl _)
   unfold NS.j2 at fa
   rw[List.take_length]at fa
   have eY:=hE.now
   rw[e]at fa
   refine ⟨es,by rw[e],?_,?_,by omega,?_⟩
   ·show (NS.log _ _).told=_
    rw[e]
    show (((({ S with aE:=S.aE + 1 }:NS).ended a.n).foldl cu (({ S with aE:=S.aE + 1 }:NS).later a.n,[])).1).told + es.length=_
    rw[hE.told];rfl
   ·show S.now≤(((({ S with aE:=S.aE + 1 }:NS).ended a.n).foldl cu (({ S with aE:=S.aE + 1 }:NS).later a.n,[])).1).now
    rw[eY];exact Nat.le_add_right _ _
   ·show mX S.tb.aq (((({ S with aE:=S.aE + 1 }:NS).ended a.n).foldl cu (({ S with aE:=S.aE + 1 }:NS).later a.n,[])).1).tb.aq ((((({ S with aE:=S.aE + 1 }:NS).ended a.n).foldl cu (({ S with aE:=S.aE + 1 }:NS).later a.n,[])).1).now:Nat) es
    rw[eY]
    exact fa
 split
 ·refine ⟨[],.none rfl ?_ ?_ ?_⟩
  ·split<;>rfl
  ·split<;>rfl
  ·split
   ·show (S.tb.aq.drain a.n _).1.own=_
    unfold ax.drain
    split
    ·split<;>rfl
    ·rfl
   ·rfl
 ·exact ⟨[],.none rfl rfl rfl rfl⟩
structure Ip (S:NS) (log:List UInt8) (all:List Ev):Prop where
 r:Bv log all
 e:all=[]→log=[]
 told:S.told=all.length
 last:all=[]∨lZ all≤S.now
 own:Uq (List.replicate 18 0) all=(S.tb.aq.own,0)
theorem Ip.step {S S':NS} {log:List UInt8} {all es:List Ev} {r:Rp} (h:Ip S log all) (hq:all.length < 4000000) (g:j5 S S' r es):Ip S' (log++r.log) (all++es):=by
 have hn:=g.now
 have hm:=h.r.more h.e (Int.natCast_nonneg S'.now) g.ev.one (by have:=g.len;omega) hq (h.last.imp id fun x=>by omega) S.told h.told
 rw[g.log]
 refine ⟨hm.1,hm.2,by rw[g.told,h.told,List.length_append],?_,by rw[OX all es _ _ h.own];exact g.ev.own⟩
 by_cases he:es=[]
 ·subst he
  rw[List.append_nil]
  exact h.last.imp id fun x=>by omega
 ·exact .inr (by rw[Xp7 g.ev.one he];exact Int.le_refl _)
structure va (r:Rp):Prop where
 len:r.frame.length≤140737488351232
 is:r.frame=[]∨r.frame≠[]∧r.code=0∧bZ r.frame=0∨r.frame≠[]∧r.code≠0∧28 < r.frame.length∧cq (r.frame.take 20)=65535∧cq (r.frame.drop 20)=65535
theorem Xnr (f:List UInt8) (aB id:Int) (h:28≤f.length):(mJ f aB id).length=56∧cq ((mJ f aB id).take 20)=65535∧cq ((mJ f aB id).drop 20)=65535:=by
 refine ⟨Xtc f aB id h,?_,?_⟩
 ·rw[show (mJ f aB id).take 20=Uw 1 167772414 aB 64 id 36 from List.take_left' (Jh ..)];exact W6 ..
 ·rw[show (mJ f aB id).drop 20=Ap f from List.drop_left' (Jh ..)];exact Xzq f
theorem za (e:Int):va (bT e):=⟨by show 0≤_;omega,.inl rfl⟩
theorem OY {g:List UInt8} (h:bZ g=0):g≠[]:=fun e=>by
 subst e
 have:=(As h).1
 simp at this
theorem X5 {S:NS} (hS:NJ S) (f:List UInt8) (hf:f.length≤140737488351232):(S.aR f).1.frame.length≤140737488351232∧((∃ e,(S.aR f).1=bT e)∨(S.aR f).1.code=0∧bZ (S.aR f).1.frame=0):=by
 rcases XV S f with ⟨e,h,_⟩|⟨m,h⟩
 ·rw[h];exact ⟨by show 0≤_;omega,.inl ⟨e,rfl⟩⟩
 ·have hr:=(h.read hS).1
  rw[h.is]at hr ⊢
  exact ⟨Nat.le_trans (HJ ..) hf,.inr ⟨rfl,hr⟩⟩
theorem Xsq {S:NS} (hS:NI S) (f:List UInt8) (d:Int) (hf:f.length≤140737488351232):va (S.out f d).1:=by
 rcases XW hS f d with ⟨e,h,_⟩|⟨e,he,h0,h⟩|⟨m,es,S1,h⟩
 ·rw[h];exact za e
 ·rw[h]
  unfold NS.refuse
  split
  ·exact za e
  ·obtain ⟨h1,h2,h3⟩:=Xnr f (w4 f 12) S.ref (As h0).1
   have bY:mJ f (w4 f 12) S.ref≠[]:=fun e=>by rw[e]at h1;simp at h1
   exact ⟨by show (mJ f (w4 f 12) S.ref).length≤_;omega,.inr (.inr ⟨bY,he,by show 28 < (mJ f (w4 f 12) S.ref).length;omega,h2,h3⟩)⟩
 ·rw[h.is,Eo]
  have hr:=h.read.1
  split
  ·obtain ⟨h1,h2⟩:=X5 (VZ h.ni es).toNJ (Yz f 0 (3405803777 + m.a) m.port) (Nat.le_trans (HJ ..) hf)
   rcases h2 with ⟨e,h2⟩|⟨h2,h3⟩
   ·rw[h2];exact ⟨by show 0≤_;omega,.inl rfl⟩
   ·exact ⟨h1,.inr (.inl ⟨OY h3,h2,h3⟩)⟩
  ·exact ⟨Nat.le_trans (HJ ..) hf,.inr (.inl ⟨OY hr,rfl,hr⟩)⟩
theorem Xnc {S:NS} (hS:NK S) (a:Ac) (hf:a.frame.length≤140737488351232):va (S.step a).1:=by
 unfold NS.step
 split
 ·exact za 6
 have h1:=hS.toNI.gI (S.aE + 1)
 dsimp only
 split
 ·exact Xsq h1 a.frame a.draw hf
 split
 ·obtain ⟨g1,g2⟩:=X5 h1.toNJ a.frame hf
  rcases g2 with ⟨e,g2⟩|⟨g2,g3⟩
  ·rw[g2];exact za e
  ·exact ⟨g1,.inr (.inl ⟨OY g3,g2,g3⟩)⟩
 split
 ·rw[Ei]
  split
  ·exact za 2
  ·exact ⟨by show 0≤_;omega,.inl rfl⟩
 split
 ·exact za _
 ·exact za 4
theorem Xwd (b:Bool) (l:List Ac) (hl:u3 l) (i:Nat):va (nX b l i):=Xnc (wD b l i) _ (Oi hl i)
structure rS (S':NS) (f:List UInt8) (r:Rp) (m:Mp):Prop where
 e:bZ f=0
 e2:bZ r.frame=0
 fwd:S'.tb.maps.find? (Zd (az f).af ((az f).aB - 167772161) (az f).ai)=some m
 a:0≤m.a∧m.a < 3
 is:az r.frame=oG (az f) 0 (3405803777 + m.a) m.port
theorem Xy0 {S:NS} (hS:NI S) (f:List UInt8) (d:Int) (h0:(S.out f d).1.code=0) (h1:(S.out f d).1.inner=false):∃ m,rS (S.out f d).2 f (S.out f d).1 m:=by
 rcases XW hS f d with ⟨e,h,he⟩|⟨e,he,h,h2⟩|⟨m,es,S1,h⟩
 ·rw[h]at h0;exact absurd h0 he
 ·rw[h2]at h0
  unfold NS.refuse at h0
  split at h0<;>exact absurd h0 he
 ·obtain ⟨g1,g2⟩:=h.read
  have Bf:=h.ni.gt.fwd h.mem
  rw[h.fwd.1,h.fwd.2.1,h.fwd.2.2]at Bf
  have hm:=(h.ni.gt.u9 h.mem).a
  rw[h.is,Eo]at h0 h1 ⊢
  split
  ·rename_i gC
   rw[if_pos gC]at h0 h1
   dsimp only at h0 h1
   rcases XV (S1.log es) (Yz f 0 (3405803777 + m.a) m.port) with ⟨e,k1,k2,_⟩|⟨m2,k⟩
   ·rw[k1]at h0;exact absurd h0 k2
   ·rw[k.is]at h1;cases h1
  ·exact ⟨m,h.e,g1,Bf,hm,g2⟩
theorem Qyk {S:NS} (hS:NK S) (a:Ac) (hk:a.kind=1) (h0:(S.step a).1.code=0) (h1:(S.step a).1.inner=false):∃ m,rS (S.step a).2 a.frame (S.step a).1 m:=by
 unfold NS.step at h0 h1 ⊢
 split
 ·rename_i h;rw[if_pos h]at h0;exact absurd h0 (by simp[bT])
 ·rename_i h
  rw[if_neg h]at h0 h1
  dsimp only at h0 h1 ⊢
  rw[if_pos hk]at h0 h1
  try rw[if_pos hk]
  exact Xy0 (hS.toNI.gI (S.aE + 1)) a.frame a.draw h0 h1
theorem Xrh (b:Bool) (l:List Ac) (i:Nat) (hk:(l.getD i lY).kind=1) (h0:(nX b l i).code=0) (h1:(nX b l i).inner=false):∃ m,rS (Ye b l (i + 1)) (l.getD i lY).frame (nX b l i) m:=Qyk (wD b l i) _ hk h0 h1
section
variable {P:Program} {c:Cx}
theorem Ybv {r0:List bG} {K:St→Prop} {d:Option Nat} {f:FuncId} {xs:List TV} {args:List AV} {aG:List (Nat × Bk)} {m:Nat} {r:AV} {aw:List (Nat × Bk)} {n:Nat} {t:List (Nat × AV)} (dM:GS P c.gl f args aG m r aw n) (H:HL aG m) (H1:HL aw n) (hle:m≤n) (hr:Qf n r)
  (hc:Qt none (aF c.gl (⟨t,aG,m⟩:St).fs xs)∧(aF c.gl (⟨t,aG,m⟩:St).fs xs).map Qj=args∧ah m args) (hx:XP P c r0 K (St.bD ⟨t,aw,n⟩ d r)):Xw P c (.pd d (.call f) xs none) r0 K ⟨t,aG,m⟩:=by
 refine .inl ⟨_,_,Co (σ:=fun b=>b) (N:=List.range n) (args:=args) dM (fun o ys aH oB s2 g a w hT hR=>?_) (fun b b' _ _ e=>e) (fun p hp=>⟨(H.mem p hp).1,(H.mem p hp).2,?_⟩) (fun b hb=>H.dW b hb) hle (fun b h1 h2=>?_) (fun p hp=>H1.mem p hp) hr hc.2.2 (fun b hb=>List.mem_range.2 hb) (fun j hj=>⟨j,List.mem_range.1 hj,rfl⟩) (fun i=>?_) (fun b hb=>?_) (fun j hj=>?_),hx⟩
 ·obtain ⟨ts,bl⟩:=tC aH
  subst oB
  have bj:aF c.gl s2 (ys.map aS)=aF c.gl (⟨t,aG,m⟩:St).fs (ys.map aS):=Xu fun i hi=>hT i hi
  have hv:=Xx (hR.aF ys) (by rw[bj];exact hc.1)
  rw[bj,hc.2.1]at hv
  refine ⟨_,tD dM.1 bl a w,?_⟩
  rw[show (fun b:Nat=>b)=id from rfl,Jf]
  exact hv
 ·show Qc aG m p.1=Qx (fun b=>b) p.2
  rw[show (fun b:Nat=>b)=id from rfl,Kb]
  exact H.self p hp
 ·show Qc aG m b=.free
  rw[H.hi m b h1,if_neg ae]
 ·cases d with
  | none=>rfl
  | some d=>show look ((d,r)::t) i=_;rw[Yw];rw[py _ (fun _=>rfl)];rfl
 ·have e:(St.bD ⟨t,aw,n⟩ d r).fs.H b=Qc aw n b:=by cases d<;>rfl
  rw[e]
  show _=pF id (Qc aw n b)
  generalize Qc aw n b=x
  cases x<;>first|rfl|exact Kb.symm
 ·have e:(St.bD ⟨t,aw,n⟩ d r).fs.H j=Qc aw n j:=by cases d<;>rfl
  rw[e]
  have hj:n≤j:=by simpa using hj
  rw[H1.hi n j hj,if_neg ae]
  show _=Qc aG m j
  rw[H.hi m j ae,if_neg ae]
end
def sw (k b:Nat):Nat:=if b < 70 then k + b else b - 70
theorem X6 {k b b':Nat} (h:b < 70 + k) (h':b' < 70 + k) (e:sw k b=sw k b'):b=b':=by
 unfold sw at e
 split at e<;>split at e<;>omega
theorem EW {k b:Nat} (h:b < 70 + k):sw k b < k + 70:=by
 unfold sw
 split<;>omega
theorem Xye {k j:Nat} (h:j < k + 70):∃ b,b < 70 + k∧sw k b=j:=by
 by_cases hj:j < k
 ·exact ⟨j + 70,by omega,by unfold sw;rw[if_neg ae];omega⟩
 ·exact ⟨j - k,by omega,by unfold sw;rw[if_pos ae];omega⟩
theorem HL.swap {h:List (Nat × Bk)} {k:Nat} (H:HL h (70 + k)):HL (Qs (sw k) h) (k + 70) where
 mem q hq:=by
  obtain ⟨x,hx,rfl⟩:=List.mem_map.1 hq
  obtain ⟨h1,h2⟩:=H.mem x hx
  exact ⟨EW h1,Ol (fun b hb=>EW hb) h2⟩
 dW b hb:=by
  obtain ⟨a,ha,rfl⟩:=Xye hb
  obtain ⟨q,hq,rfl⟩:=H.dW a ha
  exact ⟨_,List.mem_map.2 ⟨q,hq,rfl⟩,rfl⟩
 self q hq:=by
  obtain ⟨x,hx,rfl⟩:=List.mem_map.1 hq
  have h1:=(H.mem x hx).1
  show Qc (Qs (sw k) h) (k + 70) (sw k x.1)=Qx (sw k) x.2
  rw[Zc (fun b b' hb bH e=>X6 hb bH e) h1 (fun q hq=>(H.mem q hq).1) (H.dW x.1 h1),H.self x hx]
structure Bx (h:List (Nat × Bk)) (k:Nat):Prop extends HL h k where
 no:∀ q ∈ h,bP 0 q.2
theorem Yee {h:List (Nat × Bk)} (n j:Nat):Qc (up h) (70 + n) (j + 70)=Qc h n j:=by
 induction h with
 | nil =>
  show (if j + 70 < 70 + n then Bk.dead else Bk.free)=if j < n then .dead else .free
  by_cases h:j < n
  ·rw[if_pos h,if_pos ae]
  ·rw[if_neg h,if_neg ae]
 | cons q h ih =>
  show Qc ((q.1 + 70,q.2)::up h) _ _=Qc ((q.1,q.2)::h) _ _
  rw[Qd,Qd,ih]
  by_cases e:q.1=j
  ·rw[if_pos e,if_pos ae]
  ·rw[if_neg e,if_neg ae]
theorem Bx.hl {h:List (Nat × Bk)} {k:Nat} (B:Bx h k) {S:NS} {T:WT} (hT:T.wf):HL (up h++Qk S T) (70 + k) where
 mem q hq:=by
  rcases List.mem_append.1 hq with hq|hq
  ·obtain ⟨x,hx,rfl⟩:=List.mem_map.1 hq
   have:=(B.mem x hx).1
   exact ⟨by show x.1 + 70 < _;omega,Un (Nat.zero_le _) (B.no x hx)⟩
  ·obtain ⟨h1,h2⟩:=(Qi hT).mem q hq
   exact ⟨by omega,Un ae h2⟩
 dW b hb:=by
  by_cases h:b < 70
  ·obtain ⟨q,hq,e⟩:=(Qi (S:=S) hT).dW b h
   exact ⟨q,List.mem_append_right _ hq,e⟩
  ·obtain ⟨q,hq,e⟩:=B.dW (b - 70) ae
   exact ⟨_,List.mem_append_left _ (List.mem_map.2 ⟨q,hq,rfl⟩),by show q.1 + 70=b;omega⟩
 self q hq:=by
  have im:∀ q ∈ up h,70≤q.1:=fun q hq=>by
   obtain ⟨x,hx,rfl⟩:=List.mem_map.1 hq
   exact Nat.le_add_left _ _
  rcases List.mem_append.1 hq with hq|hq
  ·obtain ⟨x,hx,rfl⟩:=List.mem_map.1 hq
   have h1:=(B.mem x hx).1
   have h2:=B.self x hx
   show Qc (up h++Qk S T) (70 + k) (x.1 + 70)=x.2
   rw[Uh ⟨_,hq,rfl⟩,Yee,h2]
  ·have:=((Qi hT).mem q hq).1
   rw[Qw fun y hy e=>by have:=im y hy;omega,(Qi hT).lo this,(Qi hT).self q hq]
theorem OZ {h:List (Nat × Bk)} {k:Nat} (B:Bx h k) {S:NS} {T:WT} (hT:T.wf):Qs (sw k) (up h++Qk S T)=h++Qs (fun b=>k + b) (Qk S T):=by
 have e1:Qs (sw k) (up h++Qk S T)=Qs (sw k) (up h)++Qs (sw k) (Qk S T):=List.map_append
 have e2:Qs (sw k) (Qk S T)=Qs (fun b=>k + b) (Qk S T):=Ed (Qi hT) fun b hb=>if_pos hb
 have e3:Qs (sw k) (up h)=h:=by
  unfold Qs up
  rw[List.map_map]
  refine (List.map_congr_left fun q hq=>?_).trans (List.map_id h)
  show (sw k (q.1 + 70),Qx (sw k) q.2)=q
  rw[Om (B.no q hq)]
  unfold sw
  rw[if_neg ae]
  simp
 rw[e1,e2,e3]
theorem Bx.hk {h:List (Nat × Bk)} {k:Nat} (B:Bx h k) {S:NS} {T:WT} (hT:T.wf):HL (h++Qs (fun b=>k + b) (Qk S T)) (k + 70):=by
 rw[← OZ B hT];exact (B.hl hT).swap
theorem To.pk {h:List (Nat × Bk)} {k n:Nat} (B:Bx h k) {S:NS} {T:WT} (hT:T.wf) (hn:k + 70≤n) {d:Option Nat} {r:AV} {t t':List (Nat × AV)}
  (ht:Qu (fun j=>if j < k then j else bU (fun b=>k + b) [67] n (j - k)) (k + 70) (yP d (aD (bU (fun b=>k + b) [67] n) r) t) t'):To (List.range k) (Zr t h (Qk S T) (fun b=>k + b) [67] 70 n d r) ⟨t',h++Qs (fun b=>k + b) (Qk S T),k + 70⟩:=by
 have hs:∀ b,b < 70→bU (fun b=>k + b) [67] n b=k + 67∧b=67∨bU (fun b=>k + b) [67] n b=n + b∧b≠67:=fun b hb=>by
  by_cases e:b=67
  ·subst e;exact .inl ⟨Kq au,rfl⟩
  ·exact .inr ⟨Jy (by simpa using e),e⟩
 have bN:∀ b b',b < 70→b' < 70→bU (fun b=>k + b) [67] n b=bU (fun b=>k + b) [67] n b'→b=b':=fun b b' h1 h2 e=>by
  rcases hs b h1 with ⟨q1,q2⟩|⟨q1,q2⟩<;>rcases hs b' h2 with ⟨q3,q4⟩|⟨q3,q4⟩<;>omega
 have key:To (List.range k) ⟨yP d (aD (bU (fun b=>k + b) [67] n) r) t,h++Qs (bU (fun b=>k + b) [67] n) (Qk S T),n + 70⟩ ⟨t',h++Qs (fun b=>k + b) (Qk S T),k + 70⟩:=by
  refine To.lX _ (B.hk hT) (fun b hb=>?_) (fun b b' h1 h2 e=>?_) (fun b hb=>?_) ht
  ·have hb:=List.mem_range.1 hb
   exact ⟨if_pos hb,by omega⟩
  ·by_cases c1:b < k<;>by_cases c2:b' < k
   ·rw[if_pos c1,if_pos c2]at e;exact e
   ·rw[if_pos c1,if_neg c2]at e
    rcases hs (b' - k) (by omega) with ⟨q1,_⟩|⟨q1,_⟩<;>omega
   ·rw[if_neg c1,if_pos c2]at e
    rcases hs (b - k) (by omega) with ⟨q1,_⟩|⟨q1,_⟩<;>omega
   ·rw[if_neg c1,if_neg c2]at e
    have:=bN _ _ ae ae e
    omega
  ·by_cases c1:b < k
   ·rw[if_pos c1,Uh (B.dW b c1),Uh (B.dW b c1),B.lo c1 (n + 70),B.lo c1 (k + 70)]
    obtain ⟨_,q,hq,_,e⟩:=B.live c1 k
    rw[e]
    exact (Om (B.no q hq)).symm
   ·have pf:b - k < 70:=by omega
    have bY:∀ j,k≤j→∀ q ∈ h,q.1≠j:=fun j hj q hq e=>by have:=(B.mem q hq).1;omega
    have iq:k≤bU (fun b=>k + b) [67] n (b - k):=by rcases hs (b - k) pf with ⟨q1,_⟩|⟨q1,_⟩<;>omega
    rw[if_neg c1,Qw (bY _ iq),Qw (bY b ae),Zc bN pf (fun q hq=>((Qi hT).mem q hq).1) ((Qi hT).dW _ pf)]
    have eb:b=k + (b - k):=by omega
    have e2:Qc (Qs (fun b=>k + b) (Qk S T)) (k + 70) b=Qx (fun b=>k + b) (Qc (Qk S T) 70 (b - k)):=by
     conv=>lhs;rw[eb]
     exact Zc (fun b b' _ _ e=>by omega) pf (fun q hq=>((Qi hT).mem q hq).1) ((Qi hT).dW _ pf)
    rw[e2]
    have eE:=(Qi (S:=S) hT).nm pf
    generalize Qc (Qk S T) 70 (b - k)=x at *
    rw[HY]
    refine NA (fun j hj=>?_) eE
    show _=if k + j < k then k + j else bU (fun b=>k + b) [67] n (k + j - k)
    rw[if_neg ae,Nat.add_sub_cancel_left]
 cases d<;>exact key
set_option maxHeartbeats 4000000 in
theorem Xp5 (gl:Nat→AV) (h0:gl 0=.xp (Qo Xs) 0) (b:Bool) (l:List Ac) (hl:u3 l) (hlen:l.length≤140737488351232) (lk:FuncId) (caps:List AV) (X:Nat→List (Nat × Bk)) (hB:∀ i,Bx (X i) 1) (gH:ah 71 caps) (my:ah 1 (ay (sw 1) caps))
  (kC:∀ i,i < Jd l→∀ T:WT,T.wf→GD Tryz.prog gl lk (.ptr 67 0::.agg (l.getD i lY).enc::.agg (nX b l i).enc::caps) (up (X i)++Qk (Ye b l (i + 1)) T) 71 (List.range 71) (.bool true) (up (X (i + 1))++Qk (Ye b l (i + 1)) T)) :
  ∃ T D,WI T (Ye b l (Jd l)).now D∧D.Perm (Ye b l (Jd l)).a8∧GS Tryz.prog gl 30 [.bool b,.isl l.length (iI l),.cl lk (ay (sw 1) caps)] (X 0) 1 (.aU [.ptr 68 0,.bool true]) (X (Jd l)++Qs (fun b=>1 + b) (Qk (Ye b l (Jd l)) T)) 71:=by
 obtain ⟨Ts,xi,zb,rN⟩:=Oj gl h0 b l hl
 have gE:∀ i,(Ts i).wf:=fun i=>by
  obtain ⟨D,hD⟩:=zb i
  exact hD.1.wf
 obtain ⟨D,lW,uM⟩:=zb (Jd l)
 refine ⟨Ts (Jd l),D,lW,uM,?_⟩
 have EY:=WH gl h0
 have bV:=HT gl b
 rw[← xi]at bV
 refine HV.HX (of_decide_eq_true rfl) (hB 0).lives fun c aY hg=>?_
 subst hg
 conv in aQ _ _=>cbv
 have aW:=WJ l
 have kG:=Bo 71 l
 have Bw:=fun ρ:Nat→Nat=>show ay ρ (iI l)=iI l by rw[Yk];exact (List.map_congr_left fun v hv=>sP (Xi.1 (Bo 0 l) v hv)).trans (List.map_id _)
 have iv:Jd l≤l.length∧Jd l≤100:=⟨Nat.min_le_left _ _,Nat.min_le_right _ _⟩
 refine Qe ?_
 refine Zq EY ?_
 (refine Qa (fun h1=>?_) (fun h1=>?_)<;>try exact h1.elim)
 refine Qe ?_
 refine Eb bV (Qi (gE 0)) ?_ (fun q hq=>((hB 0).mem q hq).1) ?_
 ·exact Qr
 have wy:Qs (fun b=>1 + b) (Qk (Ye b l 0) (Ts 0))=Qs (fun b=>1 + b) (Qk (NS.new b) (Ts 0)):=rfl
 refine Qe ?_
 refine Yf (fun i:Nat=>i≤Jd l) (fun i=>⟨[(1,.isl l.length (iI l)),(2,.cl lk (ay (sw 1) caps)),(8,.ptr 68 0),(9,.int .i64 i)],X i++Qs (fun b=>1 + b) (Qk (Ye b l i) (Ts i)),71⟩) (fun i=>Jd l - i) HV.mixed (List.range 1) aY
  ⟨0,Nat.zero_le _,To.dk (by exact Qr) fun b=>rfl⟩ fun i hi=>?_
 refine Qe ?_
 (refine Qa (fun h2=>?_) (fun h2=>?_)<;>try exact h2.elim)
 ·have qT:i < l.length:=by omega
  have AU:i < Jd l:=by unfold Jd;omega
  have iq:=WK l qT
  have hd:=rN i
  have mY:=kC i AU (Ts (i + 1)) (gE (i + 1))
  have hT:=gE i
  have bI:=gE (i + 1)
  generalize l.getD i lY=a at *
  obtain ⟨a1,a2,a3,a4⟩:=a
  have zc:∃ r1 r2 r3 r4,nX b l i=⟨r1,r2,r3,r4⟩:=⟨_,_,_,_,rfl⟩
  obtain ⟨r1,r2,r3,r4,zc⟩:=zc
  rw[zc]at hd mY
  dsimp only[Ac.enc,Rp.enc]at iq hd mY
  refine Qh (An @aW @iq) ?_
  have vf:=cH (m:=71) (fun b hb=>EW (k:=1) hb) caps gH
  have hci:=Jf (ay (sw 1) caps)
  have O0:∀ q ∈ X i,jr (fun b=>1 + b) 70 q.1∧q.1 < 71:=fun q hq=>⟨fun b hb e=>by have:=((hB i).mem q hq).1;have e:1 + b=q.1:=e;omega,by have:=((hB i).mem q hq).1;omega⟩
  refine WM (v:=false) (σ:=fun b=>1 + b) (ex:=X i) (s3:=⟨[(1,.isl l.length (iI l)),(2,.cl lk (ay (sw 1) caps)),(8,.ptr 68 0),(9,.int .i64 i),(30,.agg [.int .i64 r1,.str r2,.bool r3,.str r4])],X i++Qs (fun b=>1 + b) (Qk (Ye b l (i + 1)) (Ts (i + 1))),71⟩) aY hd ⟨fun b b' _ _ e=>by omega,fun b hb=>by omega,Qi hT,by simp,O0,?_,?_,?_⟩ rfl (Qi bI) (by simp[Qf,ah]) (To.pk (hB i) bI (Nat.le_refl _) ?_) ?_
  ·exact Qr
  ·exact Qq @Xz
  ·exact Qr
  ·simp[yP,Qu,Qf,ah,look,aD,ay,kG,Bw]
   have e:=DO (x:=.cells (ay (sw 1) caps)) (ρ:=fun j=>if j=0 then j else bU (fun b=>1 + b) [67] 71 (j - 1)) (n:=1) (fun b hb=>by rw[if_pos ae]) my
   exact ⟨⟨vf,(Bk.cells.inj e).symm⟩,rfl⟩
  have aM:=fun n j (hj:71≤j)=>((hB i).hk (S:=Ye b l (i + 1)) bI).hi n j hj
  refine Qh (An @aM (An @aW @iq)) ?_
  rw[← OZ (hB i) bI]
  refine C2 (σ:=sw 1) (ex:=[(71,_),(71,_)]) (v:=true) mY ⟨fun b b' h1 h2 e=>X6 (k:=1) h1 h2 e,fun b hb=>by have:=EW (k:=1) hb;omega,(hB i).hl bI,fun b hb=>List.mem_range.1 hb,fun q hq=>?_,?_,?_,?_⟩ rfl ((hB (i + 1)).hl bI) (by simp[Qf]) ?_
  ·have e:q.1=71:=by simp at hq;rcases hq with rfl|rfl<;>rfl
   rw[e]
   exact ⟨fun b hb e=>by have:=EW (k:=1) hb;omega,by decide⟩
  ·exact Qr
  ·refine Qe ?_
   exact rfl
  ·simp[ah,Qf,gH]
  rw[WN ((hB (i + 1)).hl bI) (by simp[Qf])]
  refine Qe ?_
  (refine Qa (fun h3=>?_) (fun h3=>?_)<;>try exact h3.elim)
  refine Qe ?_
  rw[OZ (hB (i + 1)) bI]
  exact ⟨i + 1,by omega,To.drop (ex:=[(71,_),(71,_)]) ((hB (i + 1)).hk bI) au au (by simp[Qu,Qf,ah,look,aD,ay,kG,Bw,vf,hci]),by omega⟩
 ·have e:i=Jd l:=by unfold Jd at hi ⊢;omega
  subst e
  refine Qe ?_
  exact To.drop (ex:=[]) ((hB _).hk (gE _)) au au (by simp[Qu,Qf,ah,look,aD,ay])
theorem Xu7 (gl:Nat→AV) (h0:gl 0=.xp (Qo Xs) 0) (b:Bool) (l:List Ac) (hl:u3 l) (hlen:l.length≤140737488351232) (lk:FuncId) (caps:List AV) (X:Nat→List (Nat × Bk)) (hB:∀ i,Bx (X i) 1) (gH:ah 71 caps) (my:ah 1 (ay (sw 1) caps))
  (kC:∀ i,i < Jd l→∀ T:WT,T.wf→GD Tryz.prog gl lk (.ptr 67 0::.agg (l.getD i lY).enc::.agg (nX b l i).enc::caps) (up (X i)++Qk (Ye b l (i + 1)) T) 71 (List.range 71) (.bool true) (up (X (i + 1))++Qk (Ye b l (i + 1)) T)) :
  ∃ T:WT,T.wf∧GS Tryz.prog gl 30 [.bool b,.isl l.length (iI l),.cl lk (ay (sw 1) caps)] (X 0) 1 (.aU [.ptr 68 0,.bool true]) (X (Jd l)++Qs (fun b=>1 + b) (Qk (Ye b l (Jd l)) T)) 71:=by
 obtain ⟨T,D,hW,_,h⟩:=Xp5 gl h0 b l hl hlen lk caps X hB gH my kC
 exact ⟨T,hW.wf,h⟩
theorem Bx.one {cs:List AV} (h:ah 0 cs):Bx [(0,.cells cs)] 1 where
 mem q hq:=by
  obtain rfl:=List.mem_singleton.1 hq
  exact ⟨Nat.zero_lt_one,Un (Nat.zero_le _) h⟩
 dW b hb:=⟨_,List.mem_singleton.2 rfl,by show 0=b;omega⟩
 self q hq:=by
  obtain rfl:=List.mem_singleton.1 hq
  rfl
 no q hq:=by
  obtain rfl:=List.mem_singleton.1 hq
  exact h
theorem Xw6:Uv Tryz.prog 100 32=some (List.replicate 18 (.int .i64)):=by kernel_rfl
theorem Ycz {c:Cx} {ne:Bool} (o:List Int) (h:o.length=18):mq Tryz.prog c (.cA ne 32) [.agg (Qo o),.agg (Qo o)] (.bool (ne != true)) :=
 zR Xw6 (by kernel_rfl) (by kernel_rfl) (by rw[Ov,h]) (by rw[Ov,h]) au
structure X7 (S':NS) (f:List UInt8) (r:Rp) (m:Mp):Prop where
 e:bZ f=0
 e2:bZ r.frame=0
 a:0≤m.a∧m.a < 3
 is:az r.frame=oG (az f) 0 (3405803777 + m.a) m.port
 port:Jr m.port=true
 ow:S'.tb.aq.ow m.a.toNat (Xb m.port).toNat=(az f).aB - 167772160
theorem rS.tr {S':NS} {f:List UInt8} {r:Rp} {m:Mp} (hS:GT S'.tb) (h:rS S' f r m):X7 S' f r m:=by
 obtain ⟨h1,_,h3⟩:=hS.maps m (List.mem_of_find?_eq_some h.fwd)
 have h4:=List.find?_some h.fwd
 simp only[Zd,Bool.and_eq_true,beq_iff_eq]at h4
 exact ⟨h.e,h.e2,h.a,h.is,h1.2.1,by rw[h3];omega⟩
set_option maxHeartbeats 8000000 in
theorem Xzm (gl:Nat→AV) (h0:gl 0=.xp (Qo Xs) 0) (S:NS) (T:WT) (hS:NJ S) (hT:T.wf) (a:Ac) (r:Rp) (X8:a.frame.length≤140737488351232) (Bj:r.frame.length≤140737488351232) (log:List UInt8) (all:List Ev) (hL:EJ (log++r.log)=.ok all) (hO:Uq (List.replicate 18 0) all=(S.tb.aq.own,0)) (iy:(log++r.log).length≤140737488355328) (EY:all.length≤4611686018427387904) (h:a.kind=1→r.code=0→r.inner=false→∃ m,X7 S a.frame r m) :
  GD Tryz.prog gl 53 [.ptr 67 0,.agg a.enc,.agg r.enc,.ptr 70 0] ([(70,.cells [.str log])]++Qk S T) 71 (List.range 71) (.bool true) ([(70,.cells [.str (log++r.log)])]++Qk S T):=by
 have vd:FT Tryz.prog 53 Tryz.f53 (aQ Tryz.prog Tryz.f53) [.t 7]:=.of Tryz.func53
 have H1:∀ {l:List UInt8},HL ([(70,.cells [.str l])]++Qk S T) 71:=fun {l}=>(Qi hT).more (by simp[bP,ah,Qf])
 refine vd.gq (of_decide_eq_true rfl) (fun q hq=>Xc ((H1 (l:=log)).mem q hq).2) (fun b hb=>List.mem_range.1 hb) fun c aY hg=>?_
 subst hg
 conv in aQ _ _=>cbv
 have aM:=fun n b hb=>Yl (S:=S) hT n b hb
 have pC:=Xzp c.gl h0 (log++r.log) iy
 have EZ:=Xov c.gl all EY
 rw[hL]at pC
 rw[hO]at EZ
 unfold EK Oz at pC
 unfold Ou at EZ
 dsimp only at pC EZ
 have hp:=hS.wf.aq
 obtain ⟨P,hP,X9⟩:∃ P:ax,P=⟨S.tb.aq.own,[false,false,false]⟩∧P.own=S.tb.aq.own:=⟨_,rfl,rfl⟩
 have Iq:P.wf:=by rw[hP];exact ⟨hp.own,rfl⟩
 rw[show Qo S.tb.aq.own++pz=P.enc by rw[hP];rfl]at EZ
 have e2:=ax.aA Iq
 have OS:=GA P Iq
 have hpn:=fun n=>ax.b8 P n
 clear hP
 obtain ⟨a1,a2,a3,a4⟩:=a
 obtain ⟨r1,r2,r3,r4⟩:=r
 unfold Ac.enc Rp.enc
 dsimp only at X8 Bj hL iy pC h ⊢
 obtain ⟨Z1,pW,sa⟩:∃ Z:Int,(3405803776:Int)=Z∧0≤Z∧Z≤4294967296:=⟨_,rfl,by decide,by decide⟩
 obtain ⟨Z2,sT,NU⟩:∃ Z:Int,(167772160:Int)=Z∧0≤Z∧Z≤4294967296:=⟨_,rfl,by decide,by decide⟩
 rw[pW,sT]
 have e3:=Tb.aA hS.wf
 have YA:=Tb.ea hS.wf
 have HD:=WA c.gl S T hS hT
 have Bi:=fun n=>Tb.b8 (t:=S.tb) n
 have hon:=fun n=>zN n S.tb.aq.own
 have s6a:log.length + r4.length≤9223372036854775807:=by rw[List.length_append]at iy;omega
 refine Qh @aM ?_
 refine Qv pC @aM ?_
 refine Qv EZ (An @aM (An @e2 @OS)) ?_
 refine Xwf (v:=false) (ex:=[(73,_),(73,_),(70,_),(72,_),(71,_),(70,_)]) HD (Qi hT) (Qi hT) (by simpa [Qf] using Bi 70) aI au rfl ?_ ?_ ?_
 ·exact Qr
 ·exact Qq @Xz
 have O1:=GA S.tb.aq hp
 have heq:=@Ycz c true P.own Iq.own
 have e4:=ax.aA hp
 rw[← X9]at O1
 refine Qh (An @e3 (An @YA (An @O1 @e4))) ?_
 refine Qv heq (An @aM (An @e3 (An @YA (An @O1 @e4)))) ?_
 (refine Qa (fun h1=>?_) (fun h1=>?_)<;>try exact h1.elim)
 refine Qh @aM ?_
 (refine Qa (fun h2=>?_) (fun h2=>?_)<;>try exact h2.elim)
 ·refine Qh @aM ?_
  refine ⟨(),To.fV (p:=List.range 71) (ex0:=[(73,_),(73,_),(70,_),(72,_),(71,_),(70,_)]) H1 hT (fun b hb=>List.mem_range.1 hb) au au (fun b h1 h2=>?_) (by simp[Qu,Qf,ah,look,aD,ay])⟩
  obtain rfl:b=70:=by omega
  rfl
 obtain ⟨m,h3,h4,h5,h6,h7,h8⟩:=h (by simp_all) (by simp_all) (by simp_all)
 dsimp only at h4 h6
 have hQ:=xH c.gl a4 X8
 have hR:=xH c.gl r2 Bj
 unfold Up at hQ hR
 rw[if_pos h3]at hQ
 rw[if_pos h4,h6]at hR
 have hr:=(Xst h3).1
 obtain ⟨x,hx⟩:∃ x:Nat,m.a=x:=⟨m.a.toNat,by omega⟩
 obtain ⟨k1,k2⟩:=vZ m.port
 obtain ⟨k,hk⟩:∃ k:Nat,Xb m.port=k:=⟨(Xb m.port).toNat,by omega⟩
 rw[hx,hk]at h8
 rw[hk]at k2
 rw[hx]at h5
 simp only[Int.toNat_natCast]at h8
 have hx3:x < 3:=by omega
 have np:k < 6:=by omega
 obtain ⟨W,hW,mz,nk⟩:∃ W:Int,3405803777 + m.a=W∧W - Z1 - 1=(x:Int)∧0≤W∧W≤4294967295:=⟨_,rfl,by omega,by omega⟩
 have MM:=LY h7
 have fk:=Dn c.gl m.port ae
 unfold uo at fk
 rw[if_pos h7,hk,h7]at fk
 have gR:=LR P Iq x k hx3 np
 rw[show P.ow x k=(az a4).aB - Z2 by unfold ax.ow;rw[X9,← sT];exact h8]at gR
 unfold oG at hR
 rw[if_pos rfl,hW]at hR
 clear h6 h8 h3 h4 hW hk hx h7
 generalize az a4=K at *
 obtain ⟨K1,K2,K3,K4,K5,K6,K7,K8,K9,K10,K11,K12⟩:=K
 obtain ⟨m1,m2,m3,m4,m5⟩:=m
 unfold Kk at hr
 unfold Pk.enc at hQ hR
 dsimp only at hQ hR hr gR fk MM
 refine Qh @aM ?_
 refine Qv hQ @aM ?_
 refine Qv hR @aM ?_
 have hd1:(decide ((0:Int)≤x) && decide ((x:Int) < 3))=true:=by simp;omega
 refine Qv fk (An @aM (An @mz (An @e2 (An @gR @hd1)))) ?_
 refine ⟨(),To.fV (p:=List.range 71) (ex0:=[(145,_),(145,_),(144,_),(144,_),(73,_),(73,_),(70,_),(72,_),(71,_),(70,_)]) H1 hT (fun b hb=>List.mem_range.1 hb) au au (fun b h1 h2=>?_) (by simp[Qu,Qf,ah,look,aD,ay])⟩
 obtain rfl:b=70:=by omega
 rfl
theorem Xub (told:Nat) (es:List Ev):(jJ told es).length≤100 + 21 * es.length:=by
 unfold jJ
 split
 ·simp
 ·have h1:=HZ told (es.headD ⟨0,0,0,0,false⟩).t 300 (Kw es)
  have h2:=A7 es
  have h3:=HZ 0 0 2 (Wh 6)
  have h4:=Cs 6 ae
  rw[List.length_append]
  split
  ·omega
  ·rw[List.length_nil];omega
noncomputable def ve (b:Bool) (l:List Ac):Nat→List UInt8
 | 0=>[]
 | i + 1=>ve b l i++(nX b l i).log
theorem YB (b:Bool) (l:List Ac):∀ i,∃ all,Ip (Ye b l i) (ve b l i) all∧(ve b l i).length≤2000 * i
 | 0=>⟨[],⟨.inl ⟨rfl,rfl⟩,fun _=>rfl,rfl,.inl rfl,rfl⟩,Nat.le_refl _⟩
 | i + 1=>by
  obtain ⟨all,h,hl⟩:=YB b l i
  have hk:=wD b l i
  obtain ⟨es,g⟩:=Xnu hk (l.getD i lY)
  have h1:=hk.rG
  have h2:=hk.act
  have h3:=h.told
  have h4:=g.len
  have h5:=Xub (Ye b l i).told es
  refine ⟨all++es,h.step ae g,?_⟩
  show (ve b l i++(nX b l i).log).length≤_
  rw[List.length_append,show (nX b l i).log=jJ (Ye b l i).told es from g.log]
  omega
set_option maxHeartbeats 8000000 in
theorem Qx2 (gl:Nat→AV) (h0:gl 0=.xp (Qo Xs) 0) (b:Bool) (l:List Ac) (hl:u3 l) (hlen:l.length≤140737488351232):PS Tryz.prog gl 18 [.bool b,.isl l.length (iI l)] (.bool true):=by
 have hB:∀ i,Bx [(0,.cells [.str (ve b l i)])] 1:=fun i=>Bx.one (by simp[ah,Qf])
 have tba:Jd l≤100:=Nat.min_le_right _ _
 obtain ⟨T,hT,iv⟩:=Xu7 gl h0 b l hl hlen 53 [.ptr 70 0] (fun i=>[(0,.cells [.str (ve b l i)])]) hB (by simp[ah,Qf]) (by show ah 1 [.ptr 0 0];simp[ah,Qf]) fun i hi T hT=>by
  obtain ⟨all,h,hle⟩:=YB b l (i + 1)
  have hk:=wD b l (i + 1)
  have h1:=hk.rG
  have h2:=hk.act
  have h3:=h.told
  exact Xzm gl h0 _ T hk.toNI.toNJ hT _ _ (Oi hl i) (Xwd b l hl i).len (ve b l i) all h.r.ok h.own (by show (ve b l (i + 1)).length≤_;omega) ae fun e1 e2 e3=>by
   obtain ⟨m,hm⟩:=Xrh b l i e1 e2 e3
   exact ⟨m,hm.tr hk.gt⟩
 rw[show ay (sw 1) [.ptr 70 0]=[.ptr 0 0] from rfl]at iv
 have H1:=(hB (Jd l)).hk (S:=Ye b l (Jd l)) hT
 have vd:FT Tryz.prog 18 Tryz.f18 (aQ Tryz.prog Tryz.f18) [.t 4]:=.of Tryz.func18
 refine vd.ps (of_decide_eq_true rfl) (by simp[Qf]) fun c hN hg=>?_
 subst hg
 conv in aQ _ _=>cbv
 have kG:=fun n=>Bo n l
 refine Qe ?_
 refine qA (p:=[]) (s':=⟨[(9,.bool b),(10,.isl l.length (iI l)),(11,.cl 53 [.ptr 0 0])],[(0,.cells [.str (ve b l 0)])],1⟩) (by rw[hN];simp) (To.dk (by exact Qr) fun j=>?_) ?_
 ·by_cases h:j=0
  ·subst h;rfl
  ·(repeat rw[Qd,if_neg ae])
 refine Ybv iv (hB 0).toHL H1 aI (by simp[Qf,ah]) ?_ ?_
 ·exact Qq @kG
 exact Qr
end Go.Proofs.YtogckmommodmhaaGreatDoor
