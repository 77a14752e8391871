import Derived.Test.YtogckmommodmhaaGreatDoorZv5
import Derived.Test.YtogckmommodmhaaGreatDoorZv1
import Derived.Test.YtogckmommodmhaaGreatDoorZv14
import Derived.Test.YtogckmommodmhaaGreatDoorZv16
import Derived.Test.YtogckmommodmhaaGreatDoorZv13
import Derived.Test.YtogckmommodmhaaGreatDoorZv17
import Derived.Test.YtogckmommodmhaaGreatDoorZv18
import Derived.Test.YtogckmommodmhaaGreatDoorChecked
import Derived.KernelRfl
import Derived.WalkKit
import Derived.WalkSpells
import Derived.WalkLawsBesides
import Derived.BigQuiet
import Derived.Lib.Hide
namespace Go.Proofs.YtogckmommodmhaaGreatDoor
open Go.RowKit
set_option linter.all false
set_option linter.unusedSimpArgs false
set_option maxRecDepth 100000
theorem WE:FT Tryz.prog 55 Tryz.f55 (aQ Tryz.prog Tryz.f55) [.cell 2 (.ag 21),.t 3]:=.of Tryz.func55
theorem Og:FT Tryz.prog 54 Tryz.f54 (aQ Tryz.prog Tryz.f54) [.t 2,.t 3]:=.of Tryz.func54
theorem Oh:FT Tryz.prog 82 Tryz.f82 (aQ Tryz.prog Tryz.f82) [.t 4]:=.of Tryz.func82
theorem Xsy:FT Tryz.prog 84 Tryz.f84 (aQ Tryz.prog Tryz.f84) [.cell 2 (.ag 5),.t 3]:=.of Tryz.func84
theorem Ybe (l:List UInt8):∀ v,iE v l=v * 256 ^ l.length + iE 0 l:=by
 induction l with
 | nil=>intro v;simp[iE]
 | cons c l ih =>
  intro v
  simp only[iE]
  rw[ih,ih (256 * 0 + c.toNat),List.length_cons,Nat.pow_succ,Nat.add_mul,Nat.mul_zero,Nat.zero_add,Nat.mul_comm 256 v,Nat.mul_assoc,Nat.mul_comm 256]
  omega
theorem WH (v:Nat):∀ n,n≤8→iE 0 (be v n)=v % 256 ^ n
 | 0,_=>by simp[be,iE,Nat.mod_one]
 | n + 1,h=>by
  simp only[be,iE]
  rw[Ybe,Qi,WH v n af,O6 v n af,Nat.mul_zero,Nat.zero_add]
  have:=Nat.mod_mul (x:=v) (a:=256 ^ n) (b:=256)
  rw[← Nat.pow_succ]at this
  rw[this,Nat.mul_comm (256 ^ n)]
  omega
theorem Xky (v c:Int):IntKind.i64.wrap (256 * IntKind.i64.wrap v + c)=IntKind.i64.wrap (256 * v + c):=by
 rw[IntKind.wrap_i64,IntKind.wrap_i64,IntKind.wrap_i64];omega
theorem Xwf (l:List UInt8):∀ v:Nat,tv (IntKind.i64.wrap v) l=IntKind.i64.wrap (iE v l):=by
 induction l with
 | nil=>intro v;rfl
 | cons c l ih =>
  intro v
  show tv (IntKind.i64.wrap (256 * IntKind.i64.wrap v + c.toNat)) l=_
  rw[Xky]
  have e:(256 * (v:Int) + (c.toNat:Int))=((256 * v + c.toNat:Nat):Int):=by omega
  rw[e];exact ih _
theorem Xvl (l:List UInt8):cn l=IntKind.i64.wrap (iE 0 l):=by
 have h0:IntKind.i64.wrap ((0:Nat):Int)=0:=by rw[IntKind.wrap_i64];decide
 rw[← Xwf,h0];rfl
theorem Ux (v:Int) (n:Nat) (h:n≤8) (h0:0≤v) (h1:v < 256 ^ n) (h2:v < 9223372036854775808):cn (be v n)=v:=by
 obtain ⟨m,rfl⟩:=Int.eq_ofNat_of_zero_le h0
 have pF:m < 256 ^ n:=by
  have e:((256:Int) ^ n)=((256 ^ n:Nat):Int):=by rw[Int.natCast_pow];rfl
  rw[e]at h1;omega
 rw[Xvl,WH m n h,Nat.mod_eq_of_lt pF,IntKind.wrap_i64]
 omega
theorem Ycs (l:List UInt8) (h:l.length=1):0≤cn l∧cn l < 256:=Ii l 1 h (by decide)
theorem HE (seq time set:Int) (bs:List UInt8):(Yq seq time set bs).length=20 + bs.length:=by simp[Yq,Qi];omega
structure Oi where
 k:Nat
 o:List Int
def pz:List AV:=[.bool false,.bool false,.bool false]
def HF (x:List Int × Int):AV:=.aU [.agg (Qp x.1++pz),.int .i64 x.2]
theorem WJ (gl:Nat→AV) (l:List Ev) (gF:l.length≤4611686018427387904):PS Tryz.prog gl 55 [.isl l.length (Yr l)] (HF (Us (List.replicate 18 0) l)):=by
 refine WE.ps (of_decide_eq_true rfl) (by simp[Qe,ai,HF,pz,zG,zH]) fun c hN hg=>?_
 conv in aQ _ _=>cbv
 have hl:=wa l
 refine Qh @hl ?_
 refine Xs (fun x:Oi=>x.k≤l.length∧x.o.length=18∧Us x.o (l.drop x.k)=Us (List.replicate 18 0) l) (fun x=>⟨[(2,.ptr 0 0),(3,.int .i64 0),(4,.ptr 1 0),(9,.isl l.length (Yr l)),(10,.int .i64 l.length),(11,.int .i64 x.k)],[(0,.cells (Qp (List.replicate 18 0)++pz)),(1,.cells (Qp x.o++pz))],2⟩) (fun x=>l.length - x.k) WE.mixed hN
  ⟨⟨0,List.replicate 18 0⟩,⟨by simp,by simp,rfl⟩,[],by (have au:=eq_true (Up 2 l);have aH:=@pz.eq_1;refine XG ?_;clear au aH;((try (repeat' with_reducible refine And.intro ?_ ?_));(try any_goals (first|refine zm ?_|exact CL|fail))))<;>rfl⟩ fun ⟨k,o⟩ ⟨hk,ho,he⟩=>?_
 dsimp only at hk ho he
 refine Qg ?_
 (refine Qa (fun h1=>?_) (fun h1=>?_)<;>try exact h1.elim)
 ·have bF:k < l.length:=by omega
  have a8:=Nk l k bF
  have hd:l.drop k=l[k]::l.drop (k + 1):=(List.drop_eq_getElem_cons bF)
  rw[hd]at he
  generalize l[k]=e at *
  obtain ⟨t,sb,a,b,f⟩:=e
  simp only[Ev.enc]at a8
  simp only[Us,uP]at he
  refine Qh (An @hl @a8) ?_
  ((first|apply Xt|apply Xl|apply Xd|apply Xb)<;>(first|exact (J4 _ _ _ _ _ _)|(have au:=@a8;refine XG ?_;clear au;first|exact rfl|exact True.intro|((try (repeat' with_reducible refine And.intro ?_ ?_));(try any_goals (first|refine zm ?_|exact CL|fail))))))
  by_cases bf:Zo t sb a b=true
  ·have yF:qH t sb a b=0:=if_pos bf
   have hb:=bf
   simp[Zo]at hb
   obtain ⟨⟨⟨⟨⟨⟨⟨t0,t1⟩,s0⟩,s1⟩,a0⟩,a1⟩,b0⟩,b1⟩:=hb
   rw[if_neg (by rw[bf];simp)]at he
   rw[yF]
   (refine Qa (fun h2=>?_) (fun h2=>?_)<;>try exact h2.elim)
   have ei:(a * 6 + b).toNat=a.toNat * 6 + b.toNat:=by omega
   rw[ei]at he
   have hi:a.toNat * 6 + b.toNat < o.length:=by omega
   generalize jR:a.toNat * 6 + b.toNat=ix at *
   cases f with
   | false =>
    refine Qh (An @pz.eq_1 @jR) ?_
    (refine Qa (fun h3=>?_) (fun h3=>?_)<;>try exact h3.elim)
    ·refine Qh (An @pz.eq_1 @List.map_append.{0,0}) ?_
     rw[if_pos ⟨rfl,h3⟩]at he
     rw[← he];rfl
    ·rw[if_neg (by simp_all),if_neg av]at he
     refine Qh (An @pz.eq_1 @jR) ?_
     (refine Qa (fun h4=>?_) (fun h4=>?_)<;>try exact h4.elim)
     refine Qh (An @pz.eq_1 @jR) ?_
     (refine Qa (fun h5=>?_) (fun h5=>?_)<;>try exact h5.elim)
     refine Qh (An @pz.eq_1 @jR) ?_
     refine ⟨⟨k + 1,o.set ix (sb + 1)⟩,⟨by dsimp only;omega,by simp[ho],?_⟩,⟨[],?_⟩,by dsimp only;omega⟩
     ·simpa using he
     ·exact Qu (An @pz.eq_1 (An @jR (eq_true (Up 2 l))))
   | true =>
    refine Qh (An @pz.eq_1 @jR) ?_
    (refine Qa (fun h3=>?_) (fun h3=>?_)<;>try exact h3.elim)
    refine Qh (An @pz.eq_1 @jR) ?_
    (refine Qa (fun h4=>?_) (fun h4=>?_)<;>try exact h4.elim)
    ·refine Qh (An @pz.eq_1 @List.map_append.{0,0}) ?_
     rw[if_neg av,if_pos ⟨rfl,h4⟩]at he
     rw[← he];rfl
    ·rw[if_neg av,if_neg (by simp_all)]at he
     refine Qh (An @pz.eq_1 @jR) ?_
     (refine Qa (fun h5=>?_) (fun h5=>?_)<;>try exact h5.elim)
     refine Qh (An @pz.eq_1 @jR) ?_
     refine ⟨⟨k + 1,o.set ix 0⟩,⟨by dsimp only;omega,by simp[ho],?_⟩,⟨[],?_⟩,by dsimp only;omega⟩
     ·simpa using he
     ·exact Qu (An @pz.eq_1 (An @jR (An @List.set_set.{0} (eq_true (Up 2 l)))))
  ·have yF:qH t sb a b=2:=if_neg bf
   rw[if_pos (by simpa using bf)]at he
   rw[yF]
   (refine Qa (fun h2=>?_) (fun h2=>?_)<;>try exact h2.elim)
   refine Qh (An @pz.eq_1 @List.map_append.{0,0}) ?_
   rw[← he];rfl
 ·have:k=l.length:=by omega
  subst this
  rw[List.drop_length]at he
  refine Qh (An @pz.eq_1 @List.map_append.{0,0}) ?_
  rw[← he];rfl
theorem Oj:∀ (o:List Int),(Qp o).map Jg=(List.replicate o.length (SK.int .i64)).map some
 | []=>rfl
 | _::o=>by
  have:=Oj o
  simp only[Qp,List.map_cons,List.length_cons,List.replicate_succ]at this ⊢
  rw[this];rfl
def u5 (x:List UInt8):Ev:=⟨cn (x.take 8),cn ((x.drop 8).take 4) - 167772161,cn ((x.drop 12).take 4) - 3405803777,(cn ((x.drop 16).take 2) - 1024).tdiv 8,cn ((x.drop 20).take 1) == 2⟩
def Em (x:List UInt8):Prop :=
 1≤cn ((x.drop 20).take 1)∧cn ((x.drop 20).take 1)≤2∧0≤cn ((x.drop 16).take 2) - 1024∧(cn ((x.drop 16).take 2) - 1024).tmod 8=0∧cn ((x.drop 18).take 2)=cn ((x.drop 16).take 2) + 7 ∧
  Zo (u5 x).t (u5 x).s (u5 x).a (u5 x).b=true
open Classical in
noncomputable def u6 (x:List UInt8):Option Ev:=if Em x then some (u5 x) else none
def Ev.bR (e:Ev):Prop:=0≤e.t∧e.t≤1099511627776∧0≤e.s∧e.s < 8∧0≤e.a∧e.a < 3∧0≤e.b∧e.b < 6
theorem Ol (e:Ev):Zo e.t e.s e.a e.b=true ↔ e.bR:=by
 simp[Zo,Ev.bR];constructor
 ·rintro ⟨⟨⟨⟨⟨⟨⟨a,b⟩,c⟩,d⟩,e⟩,f⟩,g⟩,h⟩;exact ⟨a,b,c,d,e,f,g,h⟩
 ·rintro ⟨a,b,c,d,e,f,g,h⟩;exact ⟨⟨⟨⟨⟨⟨⟨a,b⟩,c⟩,d⟩,e⟩,f⟩,g⟩,h⟩
theorem Xmz (e:Ev) (y:List UInt8):(lI e++y).take 8=be e.t 8∧((lI e++y).drop 8).take 4=be (167772161 + e.s) 4∧((lI e++y).drop 12).take 4=be (3405803777 + e.a) 4∧((lI e++y).drop 16).take 2=be (1024 + 8 * e.b) 2 ∧
  ((lI e++y).drop 18).take 2=be (1031 + 8 * e.b) 2∧((lI e++y).drop 20).take 1=be (if e.f then 2 else 1) 1:=by
 refine ⟨?_,?_,?_,?_,?_,?_⟩<;>simp[lI,Qi,List.take_append,List.drop_append,List.take_of_length_le,List.drop_eq_nil_of_le]
theorem Ye1 (e:Ev) (h:e.bR) (y:List UInt8):u6 (lI e++y)=some e:=by
 obtain ⟨p1,p2,p3,p4,p5,p6⟩:=Xmz e y
 obtain ⟨t0,t1,s0,s1,a0,a1,b0,b1⟩:=id h
 have n1:=Ux e.t 8 aP t0 af af
 have n2:=Ux (167772161 + e.s) 4 aP af af af
 have n3:=Ux (3405803777 + e.a) 4 aP af af af
 have n4:=Ux (1024 + 8 * e.b) 2 aP af af af
 have n5:=Ux (1031 + 8 * e.b) 2 aP af af af
 have n6:=Ux (if e.f then 2 else 1) 1 (by decide) (by split<;>omega) (by split<;>omega) (by split<;>omega)
 have e0:u5 (lI e++y)=e:=by
  unfold u5
  rw[p1,p2,p3,p4,p6,n1,n2,n3,n4,n6]
  obtain ⟨t,s,a,b,f⟩:=e
  have q1:167772161 + s - 167772161=s:=by omega
  have q2:3405803777 + a - 3405803777=a:=by omega
  have q3:(1024 + 8 * b - 1024).tdiv 8=b:=by
   have:1024 + 8 * b - 1024=8 * b:=by omega
   rw[this,Int.tdiv_eq_ediv_of_nonneg (by simp only at b0;omega)];omega
  dsimp only
  rw[q1,q2,q3]
  cases f<;>rfl
 unfold u6
 rw[e0,if_pos]
 unfold Em
 rw[e0,p4,p5,p6,n4,n5,n6]
 refine ⟨by split<;>omega,by split<;>omega,by omega,?_,by omega,(Ol e).2 h⟩
 have:1024 + 8 * e.b - 1024=8 * e.b:=by omega
 rw[this,Int.tmod_eq_emod_of_nonneg af];omega
theorem WK (gl:Nat→AV) (l:List UInt8) (bad:Bool) (n:Nat) (hn:n≤l.length) (h8:n≤1000) :
  GS Tryz.prog gl 82 [.ptr 0 0,.int .i64 n] [(0,.cells [.str l,.bool bad])] 1 (.int .i64 (cn (l.take n))) [(0,.cells [.str (l.drop n),.bool bad])] 1:=by
 refine Oh.gs (of_decide_eq_true rfl) (by simp[Bk.live]) fun c a7 hg=>?_
 conv in aQ _ _=>cbv
 (refine XG ?_;((try (repeat' with_reducible refine And.intro ?_ ?_));(try any_goals (first|refine zm ?_|exact CL|fail))))
 (refine Qa (fun h1=>?_) (fun h1=>?_)<;>try exact h1.elim)
 ·omega
 (refine XG ?_;((try (repeat' with_reducible refine And.intro ?_ ?_));(try any_goals (first|refine zm ?_|exact CL|fail))))
 ((first|apply qs|apply qt|apply qu|apply qw|apply qx|apply qy);(refine XG ?_;((try (repeat' with_reducible refine And.intro ?_ ?_));(try any_goals (first|refine zm ?_|exact CL|fail)))))
 refine Um (fun k:Nat=>k≤n) (fun k=>⟨[(0,.ptr 0 0),(1,.int .i64 n),(5,.int .i64 (cn ((l.take n).take k))),(27,.sl 1 1 0 n n),(28,.int .i64 n),(29,.int .i64 k)],[(0,.cells [.str l,.bool bad]),(1,.cells (Xq (l.take n)))],2⟩) (fun k=>n - k) Oh.mixed 1 a7
  ⟨0,by omega,[],by (refine XG ?_;((try (repeat' with_reducible refine And.intro ?_ ?_));(try any_goals (first|refine zm ?_|exact CL|fail))))<;>rfl⟩ fun k hk=>?_
 (refine XG ?_;((try (repeat' with_reducible refine And.intro ?_ ?_));(try any_goals (first|refine zm ?_|exact CL|fail))))
 (refine Qa (fun h2=>?_) (fun h2=>?_)<;>try exact h2.elim)
 ·have hlen:(l.take n).length=n:=by rw[List.length_take];omega
  have hs:=O5 (l.take n) k af
  have ho:=Ih (cn ((l.take n).take k)) ((l.take n).getD k 0).toNat af (by have:=UInt8.toNat_lt ((l.take n).getD k 0);omega)
  have hb:=UInt8.toNat_lt ((l.take n).getD k 0)
  generalize hL:l.take n=L at *
  (have au:=@hlen;refine XG ?_;clear au;((try (repeat' with_reducible refine And.intro ?_ ?_));(try any_goals (first|refine zm ?_|exact CL|fail))))
  refine ⟨k + 1,by omega,⟨[],?_⟩,by omega⟩
  (have au:=@hs;have aH:=@hlen;refine XG ?_;clear au aH;((try (repeat' with_reducible refine And.intro ?_ ?_));(try any_goals (first|refine zm ?_|exact CL|fail))))
  have m1:l.take (min k n)=L.take k:=by rw[← hL,List.take_take]
  have m2:l.take (min (k + 1) n)=L.take (k + 1):=by rw[← hL,List.take_take]
  have m3:(2:Int) ^ min 8 64=256:=by decide
  rw[m1,m2,m3,hs,ho]
 ·have:k=n:=by omega
  subst this
  (refine XG ?_;((try (repeat' with_reducible refine And.intro ?_ ?_));(try any_goals (first|refine zm ?_|exact CL|fail))))
  refine ⟨[],?_⟩
  (refine XG ?_;((try (repeat' with_reducible refine And.intro ?_ ?_));(try any_goals (first|refine zm ?_|exact CL|fail))))
theorem Xdt (gl:Nat→AV) (l:List UInt8) (bad:Bool) (n:Nat) (hn:l.length < n) (h8:n≤1000) :
  GS Tryz.prog gl 82 [.ptr 0 0,.int .i64 n] [(0,.cells [.str l,.bool bad])] 1 (.int .i64 0) [(0,.cells [.str [],.bool true])] 1:=by
 refine Oh.gs (of_decide_eq_true rfl) (by simp[Bk.live]) fun c a7 hg=>?_
 conv in aQ _ _=>cbv
 (refine XG ?_;((try (repeat' with_reducible refine And.intro ?_ ?_));(try any_goals (first|refine zm ?_|exact CL|fail))))
 (refine Qa (fun h1=>?_) (fun h1=>?_)<;>try exact h1.elim)
 ·(refine XG ?_;((try (repeat' with_reducible refine And.intro ?_ ?_));(try any_goals (first|refine zm ?_|exact CL|fail))))
  refine ⟨[],?_⟩
  (refine XG ?_;((try (repeat' with_reducible refine And.intro ?_ ?_));(try any_goals (first|refine zm ?_|exact CL|fail))))
 ·omega
theorem td8 (x:Int) (h:-70000≤x∧x≤70000):-70000≤x.tdiv 8∧x.tdiv 8≤70000:=by
 by_cases h0:0≤x
 ·rw[Int.tdiv_eq_ediv_of_nonneg h0];omega
 ·have e:x.tdiv 8=-((-x).tdiv 8):=by rw[Int.neg_tdiv,Int.neg_neg]
  rw[e,Int.tdiv_eq_ediv_of_nonneg af];omega
theorem Xyi {t s a b:Int} (h:Zo t s a b=true):qH t s a b=0:=if_pos h
theorem Xxt {t s a b:Int} (h:qH t s a b=0):Zo t s a b=true:=by
 unfold qH at h
 split at h
 ·assumption
 ·cases h
def En:List AV:=[.int .i64 0,.int .i64 0,.int .i64 0,.int .i64 0,.bool false]
def Eo:Option Ev→AV
 | some e=>.aU [.agg e.enc,.int .i64 0]
 | none=>.aU [.agg En,.int .i64 2]
theorem Ws (gl:Nat→AV) (l:List UInt8) (bad:Bool) (n:Nat) (v:Int) (hv:cn (l.take n)=v) (hn:n≤l.length) (h8:n≤1000) :
  GS Tryz.prog gl 82 [.ptr 0 0,.int .i64 n] [(0,.cells [.str l,.bool bad])] 1 (.int .i64 v) [(0,.cells [.str (l.drop n),.bool bad])] 1:=hv ▸ WK gl l bad n hn h8
def Om (Z1 Z2 T I O F E K:Int):Prop:=1≤K∧K≤2∧0≤F - 1024∧(F - 1024).tmod 8=0∧E=F + 8 - 1∧Zo T (I - Z2 - 1) (O - Z1 - 1) ((F - 1024).tdiv 8)=true
def Ep (Z1 Z2 T I O F K:Int):AV:=.aU [.agg [.int .i64 T,.int .i64 (I - Z2 - 1),.int .i64 (O - Z1 - 1),.int .i64 ((F - 1024).tdiv 8),.bool (K == 2)],.int .i64 0]
def HH:AV:=.aU [.agg En,.int .i64 2]
open Classical in
noncomputable def Er (Z1 Z2 T I O F E K:Int):AV:=if Om Z1 Z2 T I O F E K then Ep Z1 Z2 T I O F K else HH
theorem Yez (l:List UInt8):Eo (u6 l)=Er 3405803776 167772160 (cn (l.take 8)) (cn ((l.drop 8).take 4)) (cn ((l.drop 12).take 4)) (cn ((l.drop 16).take 2)) (cn ((l.drop 18).take 2)) (cn ((l.drop 20).take 1)):=by
 have e1:∀ I:Int,I - 167772161=I - 167772160 - 1:=fun I=>by omega
 have e2:∀ O:Int,O - 3405803777=O - 3405803776 - 1:=fun O=>by omega
 have e3:∀ F:Int,F + 7=F + 8 - 1:=fun F=>by omega
 unfold u6 Er
 have hc:Em l=Om 3405803776 167772160 (cn (l.take 8)) (cn ((l.drop 8).take 4)) (cn ((l.drop 12).take 4)) (cn ((l.drop 16).take 2)) (cn ((l.drop 18).take 2)) (cn ((l.drop 20).take 1)):=by
  unfold Em Om u5
  simp only[e1,e2,e3]
 by_cases h:Em l
 ·rw[if_pos h,if_pos (hc ▸ h)]
  unfold u5 Eo Ev.enc Ep
  simp only[e1,e2]
 ·rw[if_neg h,if_neg (hc ▸ h)]
  rfl
set_option maxRecDepth 20000 in
set_option maxHeartbeats 1000000 in
theorem Xjj (gl:Nat→AV) (l:List UInt8) (bad:Bool) (hl:21≤l.length) (T I O F E K:Int) (h1:cn (l.take 8)=T) (h2:cn ((l.drop 8).take 4)=I) (h3:cn ((l.drop 12).take 4)=O) (h4:cn ((l.drop 16).take 2)=F) (h5:cn ((l.drop 18).take 2)=E) (h6:cn ((l.drop 20).take 1)=K)
  (l2:0≤I∧I < 4294967296) (l3:0≤O∧O < 4294967296) (l4:0≤F∧F < 65536) (l5:0≤E∧E < 65536) (l6:0≤K∧K < 256) :
  GS Tryz.prog gl 84 [.ptr 0 0] [(0,.cells [.str l,.bool bad])] 1 (Er 3405803776 167772160 T I O F E K) [(0,.cells [.str (l.drop 21),.bool bad])] 1:=by
 refine Xsy.gs (of_decide_eq_true rfl) (by simp[Bk.live]) fun c a7 hg=>?_
 conv in aQ _ _=>cbv
 have a1:=Ws c.gl l bad 8 _ h1 af aP
 have a2:=Ws c.gl (l.drop 8) bad 4 _ h2 (by simp only[List.length_drop];omega) aP
 have a3:=Ws c.gl (l.drop 12) bad 4 _ h3 (by simp only[List.length_drop];omega) aP
 have a4:=Ws c.gl (l.drop 16) bad 2 _ h4 (by simp only[List.length_drop];omega) aP
 have a5:=Ws c.gl (l.drop 18) bad 2 _ h5 (by simp only[List.length_drop];omega) aP
 have a6:=Ws c.gl (l.drop 20) bad 1 _ h6 (by simp only[List.length_drop];omega) aP
 obtain ⟨Z1,qc,sy⟩:∃ Z:Int,(3405803776:Int)=Z∧0≤Z∧Z≤4294967296:=⟨_,rfl,by decide,by decide⟩
 obtain ⟨Z2,tj,NF⟩:∃ Z:Int,(167772160:Int)=Z∧0≤Z∧Z≤4294967296:=⟨_,rfl,by decide,by decide⟩
 rw[qc,tj]
 clear qc tj h1 h2 h3 h4 h5 h6
 (refine XG ?_;((try (repeat' with_reducible refine And.intro ?_ ?_));(try any_goals (first|refine zm ?_|exact CL|fail))))
 ((first|refine Qx (ins:=[0]) a1 ?_ ?_|refine Qt (ins:=[0]) a1 ?_ ?_|refine Qs (ins:=[0]) a1 ?_ ?_|refine Qq (ins:=[0]) a1 ?_ ?_)<;>(refine XG ?_;(try first|exact rfl|exact True.intro);((try (repeat' with_reducible refine And.intro ?_ ?_));(try any_goals (first|refine zm ?_|exact CL|fail)))))
 ((first|refine Qx (ins:=[0]) a2 ?_ ?_|refine Qt (ins:=[0]) a2 ?_ ?_|refine Qs (ins:=[0]) a2 ?_ ?_|refine Qq (ins:=[0]) a2 ?_ ?_)<;>(refine XG ?_;(try first|exact rfl|exact True.intro);((try (repeat' with_reducible refine And.intro ?_ ?_));(try any_goals (first|refine zm ?_|exact CL|fail)))))
 ((first|refine Qx (ins:=[0]) a3 ?_ ?_|refine Qt (ins:=[0]) a3 ?_ ?_|refine Qs (ins:=[0]) a3 ?_ ?_|refine Qq (ins:=[0]) a3 ?_ ?_)<;>(have au:=@List.drop_drop.{0};refine XG ?_;clear au;(try first|exact rfl|exact True.intro);((try (repeat' with_reducible refine And.intro ?_ ?_));(try any_goals (first|refine zm ?_|exact CL|fail)))))
 ((first|refine Qx (ins:=[0]) a4 ?_ ?_|refine Qt (ins:=[0]) a4 ?_ ?_|refine Qs (ins:=[0]) a4 ?_ ?_|refine Qq (ins:=[0]) a4 ?_ ?_)<;>(have au:=@List.drop_drop.{0};refine XG ?_;clear au;(try first|exact rfl|exact True.intro);((try (repeat' with_reducible refine And.intro ?_ ?_));(try any_goals (first|refine zm ?_|exact CL|fail)))))
 ((first|refine Qx (ins:=[0]) a5 ?_ ?_|refine Qt (ins:=[0]) a5 ?_ ?_|refine Qs (ins:=[0]) a5 ?_ ?_|refine Qq (ins:=[0]) a5 ?_ ?_)<;>(have au:=@List.drop_drop.{0};refine XG ?_;clear au;(try first|exact rfl|exact True.intro);((try (repeat' with_reducible refine And.intro ?_ ?_));(try any_goals (first|refine zm ?_|exact CL|fail)))))
 ((first|refine Qx (ins:=[0]) a6 ?_ ?_|refine Qt (ins:=[0]) a6 ?_ ?_|refine Qs (ins:=[0]) a6 ?_ ?_|refine Qq (ins:=[0]) a6 ?_ ?_)<;>(have au:=@List.drop_drop.{0};refine XG ?_;clear au;(try first|exact rfl|exact True.intro);((try (repeat' with_reducible refine And.intro ?_ ?_));(try any_goals (first|refine zm ?_|exact CL|fail)))))
 clear a1 a2 a3 a4 a5 a6
 ((first|apply Xt|apply Xl|apply Xd|apply Xb)<;>(first|exact (J4 _ _ _ _ _ _)|(refine XG ?_;first|exact rfl|exact True.intro|((try (repeat' with_reducible refine And.intro ?_ ?_));(try any_goals (first|refine zm ?_|exact CL|fail))))))
 have e3:IntKind.i64.wrap ((F - 1024).tdiv 8)=(F - 1024).tdiv 8:=by
  have:=td8 (F - 1024) af
  rw[IntKind.wrap_i64];omega
 (refine Qa (fun h7=>?_) (fun h7=>?_)<;>try exact h7.elim)
 ·rw[e3]at h7
  have hX:Er Z1 Z2 T I O F E K=HH:=if_neg fun h=>by
   obtain ⟨a1,a2,a3,a4,a5,a6⟩:=h
   have:=Xyi a6
   omega
  rw[hX]
  clear hX
  (have au:=@En.eq_1;have aH:=@HH.eq_1;refine XG ?_;clear au aH;((try (repeat' with_reducible refine And.intro ?_ ?_));(try any_goals (first|refine zm ?_|exact CL|fail))))
  refine ⟨[],?_⟩
  (have au:=@En.eq_1;have aH:=@HH.eq_1;refine XG ?_;clear au aH;((try (repeat' with_reducible refine And.intro ?_ ?_));(try any_goals (first|refine zm ?_|exact CL|fail))))
 ·rw[e3]at h7
  have hX:Er Z1 Z2 T I O F E K=Ep Z1 Z2 T I O F K:=if_pos ⟨by omega,by omega,by omega,by omega,by omega,Xxt af⟩
  rw[hX]
  clear hX h7
  (have au:=@Ep.eq_1;refine XG ?_;clear au;((try (repeat' with_reducible refine And.intro ?_ ?_));(try any_goals (first|refine zm ?_|exact CL|fail))))
  refine ⟨[],?_⟩
  (have au:=@e3;have aH:=@Ep.eq_1;refine XG ?_;clear au aH;((try (repeat' with_reducible refine And.intro ?_ ?_));(try any_goals (first|refine zm ?_|exact CL|fail))))
theorem Xtu (gl:Nat→AV) (l:List UInt8) (bad:Bool) (hl:21≤l.length) :
  GS Tryz.prog gl 84 [.ptr 0 0] [(0,.cells [.str l,.bool bad])] 1 (Eo (u6 l)) [(0,.cells [.str (l.drop 21),.bool bad])] 1:=by
 rw[Yez]
 exact Xjj gl l bad hl _ _ _ _ _ _ rfl rfl rfl rfl rfl rfl (EO _ (tz _ _ _ af)) (EO _ (tz _ _ _ af)) (EP _ (tz _ _ _ af)) (EP _ (tz _ _ _ af)) (Ycs _ (tz _ _ _ af))
theorem On (s:List UInt8) (k:Nat) (h:k + 2≤s.length):0≤n2 s k∧n2 s k≤65535:=by
 have:=EP ((s.drop k).take 2) (tz _ _ _ h)
 unfold n2;omega
theorem WL (s:List UInt8) (k:Nat) (h:k + 4≤s.length):0≤n4 s k∧n4 s k≤4294967295:=by
 have:=EO ((s.drop k).take 4) (tz _ _ _ h)
 unfold n4;omega
def WM:Ev:=⟨0,0,0,0,false⟩
def l8 (l:List Ev):Int:=(l.getD (l.length - 1) WM).t
noncomputable def tq (time:Int):Nat→List Ev→List UInt8→Option (List Ev)
 | 0,l,_=>some l
 | m + 1,l,b=>match u6 b with
  | none=>none
  | some e=>if e.t % 4294967296=time∧(l=[]∨l8 l≤e.t) then tq time m (l++[e]) (b.drop 21) else none
def qf (s:List UInt8):Prop:=16≤s.length∧n2 s 0=10∧20≤n2 s 2∧n2 s 2≤s.length∧n4 s 12=1
def rZ (s:List UInt8):Prop:=(n2 s 16=2∨n2 s 16=300)∧n2 s 18=n2 s 2 - 16
def HI (l:List Ev):AV:=.aU [.isl l.length (Yr l),.int .i64 0]
def WN (e:Int):AV:=.aU [.nils,.int .i64 e]
def Je (s:List UInt8):Nat:=(n2 s 2).toNat
open Classical in
noncomputable def Yv:Nat→List Ev→Bool→List UInt8→Except Int (List Ev)
 | 0,l,_,_=>.ok l
 | f + 1,l,k,s =>
  if s=[] then .ok l
  else if ¬ qf s then .error 1
  else if ¬ rZ s then .error 1
  else if n4 s 8≠l.length then .error 3
  else if n2 s 16=2 then if Yq l.length 0 2 (Kc 6)=s.take (Je s) then Yv f l true (s.drop (Je s)) else .error 4
  else if k=false then .error 7
  else if Je s=20∨(Je s - 20) % 21≠0 then .error 1
  else match tq (n4 s 4) ((Je s - 20) / 21) l ((s.take (Je s)).drop 20) with
   | none=>.error 2
   | some l'=>Yv f l' k (s.drop (Je s))
noncomputable def Es (s:List UInt8):Except Int (List Ev):=Yv s.length [] false s
def Bc:Except Int (List Ev)→AV
 | .ok l=>HI l
 | .error e=>WN e
theorem Yao (n:Nat) (x:Except Int (List Ev)):Qe n (Bc x):=by
 cases x with
 | error e=>simp[Bc,WN,Qe,ai]
 | ok l=>simp[Bc,HI,Qe,ai,Up]
section
variable {f:Nat} {l:List Ev} {k:Bool} {s:List UInt8}
theorem yN:Yv f l k []=.ok l:=by cases f<;>simp[Yv]
theorem HJ (h0:s≠[]) (h1:¬ qf s):Yv (f + 1) l k s=.error 1:=by unfold Yv;rw[if_neg h0,if_pos h1]
theorem Oo (h0:s≠[]) (h1:qf s) (h2:¬ rZ s):Yv (f + 1) l k s=.error 1:=by unfold Yv;rw[if_neg h0,if_neg (Classical.not_not.2 h1),if_pos h2]
theorem Oq (h0:s≠[]) (h1:qf s) (h2:rZ s) (h3:n4 s 8≠l.length):Yv (f + 1) l k s=.error 3:=by unfold Yv;rw[if_neg h0,if_neg (Classical.not_not.2 h1),if_neg (Classical.not_not.2 h2),if_pos h3]
theorem Ot (h0:s≠[]) (h1:qf s) (h2:rZ s) (h3:n4 s 8=l.length) (h4:n2 s 16=2) (h5:¬ Yq l.length 0 2 (Kc 6)=s.take (Je s)):Yv (f + 1) l k s=.error 4:=by
 unfold Yv;rw[if_neg h0,if_neg (Classical.not_not.2 h1),if_neg (Classical.not_not.2 h2),if_neg (Classical.not_not.2 h3),if_pos h4,if_neg h5]
theorem HM (h0:s≠[]) (h1:qf s) (h2:rZ s) (h3:n4 s 8=l.length) (h4:n2 s 16=2) (h5:Yq l.length 0 2 (Kc 6)=s.take (Je s)):Yv (f + 1) l k s=Yv f l true (s.drop (Je s)):=by
 rw[Yv,if_neg h0,if_neg (Classical.not_not.2 h1),if_neg (Classical.not_not.2 h2),if_neg (Classical.not_not.2 h3),if_pos h4,if_pos h5]
theorem Ou (h0:s≠[]) (h1:qf s) (h2:rZ s) (h3:n4 s 8=l.length) (h4:n2 s 16≠2) (h5:k=false):Yv (f + 1) l k s=.error 7:=by
 unfold Yv;rw[if_neg h0,if_neg (Classical.not_not.2 h1),if_neg (Classical.not_not.2 h2),if_neg (Classical.not_not.2 h3),if_neg h4,if_pos h5]
theorem Ov (h0:s≠[]) (h1:qf s) (h2:rZ s) (h3:n4 s 8=l.length) (h4:n2 s 16≠2) (h5:k=true) (h6:Je s=20∨(Je s - 20) % 21≠0):Yv (f + 1) l k s=.error 1:=by
 unfold Yv;rw[if_neg h0,if_neg (Classical.not_not.2 h1),if_neg (Classical.not_not.2 h2),if_neg (Classical.not_not.2 h3),if_neg h4,if_neg (by simp[h5]),if_pos h6]
theorem HO (h0:s≠[]) (h1:qf s) (h2:rZ s) (h3:n4 s 8=l.length) (h4:n2 s 16≠2) (h5:k=true) (h6:¬ (Je s=20∨(Je s - 20) % 21≠0)):Yv (f + 1) l k s =
  match tq (n4 s 4) ((Je s - 20) / 21) l ((s.take (Je s)).drop 20) with
   | none=>.error 2
   | some l'=>Yv f l' k (s.drop (Je s)):=by
 rw[Yv,if_neg h0,if_neg (Classical.not_not.2 h1),if_neg (Classical.not_not.2 h2),if_neg (Classical.not_not.2 h3),if_neg h4,if_neg (by simp[h5]),if_neg h6]
end
theorem Et (gl:Nat→AV) (l:List UInt8) (bad:Bool) (n:Nat) (h8:n≤1000):∃ (v:Int) (l':List UInt8) (b':Bool),l'.length=l.length - n∧(l.length < n∨bad=true→b'=true) ∧
  GS Tryz.prog gl 82 [.ptr 0 0,.int .i64 n] [(0,.cells [.str l,.bool bad])] 1 (.int .i64 v) [(0,.cells [.str l',.bool b'])] 1:=by
 by_cases h:l.length < n
 ·exact ⟨_,_,_,by simp;omega,fun _=>rfl,Xdt gl l bad n h h8⟩
 ·exact ⟨_,_,_,by rw[List.length_drop],fun h2=>h2.elim (fun h3=>(h h3).elim) id,WK gl l bad n af h8⟩
theorem Xpn {x:List UInt8} {e:Ev} (h:u6 x=some e):e.bR:=by
 unfold u6 at h
 split at h
 ·rename_i aY
  cases h
  exact (Ol _).1 aY.2.2.2.2.2
 ·cases h
theorem Xnr (l:List Ev) (h:l≠[]):(Yr l).getD ((l.length - 1) * 5) .any=.int .i64 (l8 l):=by
 have hp:0 < l.length:=List.length_pos_iff.2 h
 have:=UY l (l.length - 1) af 0 af
 rw[Nat.add_zero]at this
 rw[this]
 unfold l8
 simp[Ev.enc,List.getD,show l.length - 1 < l.length by omega]
theorem Ycv (N:Nat) (h:20≤N):((N:Int) - 20).tmod 21=(((N - 20) % 21:Nat):Int):=by
 rw[Int.tmod_eq_emod_of_nonneg af];omega
theorem WO (l:List Ev) (t s a b:Int) (f:Bool):Yr l++[.int .i64 t,.int .i64 s,.int .i64 a,.int .i64 b,.bool f]=Yr (l++[⟨t,s,a,b,f⟩]):=by
 simp[Yr,Ev.enc]
structure RdI where
 f:Nat
 l:List Ev
 k:Bool
 s:List UInt8
structure EvI where
 m:Nat
 l:List Ev
 b:List UInt8
set_option maxHeartbeats 4000000 in
set_option maxRecDepth 20000 in
theorem WQ (gl:Nat→AV) (h0:gl 0=.xp (Qp Xo) 0) (s0:List UInt8) (hl:s0.length≤140737488355328):PS Tryz.prog gl 54 [.str s0] (Bc (Es s0)):=by
 refine Og.ps (of_decide_eq_true rfl) (Yao _ _) fun c hN hg=>?_
 conv in aQ _ _=>cbv
 have htm:=fun q=>Ru c.gl (by rw[hg];exact h0) q
 generalize hR:Es s0=R
 (refine XG ?_;((try (repeat' with_reducible refine And.intro ?_ ?_));(try any_goals (first|refine zm ?_|exact CL|fail))))
 refine xe 4 5 rfl rfl ?_
 refine Xs (fun x:RdI=>Yv x.f x.l x.k x.s=R∧x.s.length≤x.f∧x.l.length * 21 + x.s.length≤s0.length) (fun x=>⟨[(0,.str x.s),(4,.sl 5 0 0 x.l.length x.l.length),(5,.bool x.k)],[(0,.cells (Yr x.l))],1⟩) (fun x=>x.s.length) Og.mixed hN
  ⟨⟨s0.length,[],false,s0⟩,⟨hR,Nat.le_refl _,by simp⟩,[],by (have au:=@St.named.eq_1;refine XG ?_;clear au;((try (repeat' with_reducible refine And.intro ?_ ?_));(try any_goals (first|refine zm ?_|exact CL|fail))));exact rfl⟩ fun ⟨f,l,k,s⟩ ⟨he,hf,hb⟩=>?_
 dsimp only at he hf hb
 have aJ:=wa l
 (refine XG ?_;((try (repeat' with_reducible refine And.intro ?_ ?_));(try any_goals (first|refine zm ?_|exact CL|fail))))
 (refine Qa (fun h1=>?_) (fun h1=>?_)<;>try exact h1.elim)
 rotate_left
 ·subst h1
  rw[yN]at he
  subst he
  (have au:=@aJ;refine XG ?_;clear au;((try (repeat' with_reducible refine And.intro ?_ ?_));(try any_goals (first|refine zm ?_|exact CL|fail))))
  rfl
 have nO:0 < s.length:=List.length_pos_iff.2 h1
 obtain ⟨f,rfl⟩:∃ j,f=j + 1:=⟨f - 1,by omega⟩
 by_cases h16:s.length < 16
 ·rw[HJ h1 fun h=>by have:=h.1;omega]at he
  subst he
  obtain ⟨v1,l1,b1,L1,q1,G1⟩:=Et c.gl s false 2 aP
  obtain ⟨v2,l2,b2,L2,q2,G2⟩:=Et c.gl l1 b1 2 aP
  obtain ⟨v3,l3,b3,L3,q3,G3⟩:=Et c.gl l2 b2 4 aP
  obtain ⟨v4,l4,b4,L4,q4,G4⟩:=Et c.gl l3 b3 4 aP
  obtain ⟨v5,l5,b5,L5,q5,G5⟩:=Et c.gl l4 b4 4 aP
  have lW:b5=true:=by
   rcases (show s.length < 2∨l1.length < 2∨l2.length < 4∨l3.length < 4∨l4.length < 4 by omega) with h|h|h|h|h
   ·exact q5 (.inr (q4 (.inr (q3 (.inr (q2 (.inr (q1 (.inl h)))))))))
   ·exact q5 (.inr (q4 (.inr (q3 (.inr (q2 (.inl h)))))))
   ·exact q5 (.inr (q4 (.inr (q3 (.inl h)))))
   ·exact q5 (.inr (q4 (.inl h)))
   ·exact q5 (.inl h)
  subst lW
  (refine XG ?_;((try (repeat' with_reducible refine And.intro ?_ ?_));(try any_goals (first|refine zm ?_|exact CL|fail))))
  ((first|refine Qx (ins:=[1]) G1 ?_ ?_|refine Qt (ins:=[1]) G1 ?_ ?_|refine Qs (ins:=[1]) G1 ?_ ?_|refine Qq (ins:=[1]) G1 ?_ ?_)<;>(refine XG ?_;(try first|exact rfl|exact True.intro);((try (repeat' with_reducible refine And.intro ?_ ?_));(try any_goals (first|refine zm ?_|exact CL|fail)))))
  ((first|refine Qx (ins:=[1]) G2 ?_ ?_|refine Qt (ins:=[1]) G2 ?_ ?_|refine Qs (ins:=[1]) G2 ?_ ?_|refine Qq (ins:=[1]) G2 ?_ ?_)<;>(refine XG ?_;(try first|exact rfl|exact True.intro);((try (repeat' with_reducible refine And.intro ?_ ?_));(try any_goals (first|refine zm ?_|exact CL|fail)))))
  ((first|refine Qx (ins:=[1]) G3 ?_ ?_|refine Qt (ins:=[1]) G3 ?_ ?_|refine Qs (ins:=[1]) G3 ?_ ?_|refine Qq (ins:=[1]) G3 ?_ ?_)<;>(refine XG ?_;(try first|exact rfl|exact True.intro);((try (repeat' with_reducible refine And.intro ?_ ?_));(try any_goals (first|refine zm ?_|exact CL|fail)))))
  ((first|refine Qx (ins:=[1]) G4 ?_ ?_|refine Qt (ins:=[1]) G4 ?_ ?_|refine Qs (ins:=[1]) G4 ?_ ?_|refine Qq (ins:=[1]) G4 ?_ ?_)<;>(refine XG ?_;(try first|exact rfl|exact True.intro);((try (repeat' with_reducible refine And.intro ?_ ?_));(try any_goals (first|refine zm ?_|exact CL|fail)))))
  ((first|refine Qx (ins:=[1]) G5 ?_ ?_|refine Qt (ins:=[1]) G5 ?_ ?_|refine Qs (ins:=[1]) G5 ?_ ?_|refine Qq (ins:=[1]) G5 ?_ ?_)<;>(refine XG ?_;(try first|exact rfl|exact True.intro);((try (repeat' with_reducible refine And.intro ?_ ?_));(try any_goals (first|refine zm ?_|exact CL|fail)))))
  (refine Qa (fun g1=>?_) (fun g1=>?_)<;>try exact g1.elim)
  (refine XG ?_;((try (repeat' with_reducible refine And.intro ?_ ?_));(try any_goals (first|refine zm ?_|exact CL|fail))))
  rfl
 have hN0:=On s 2 af
 have hNv:n2 s 2=((Je s:Nat):Int):=by unfold Je;omega
 have hq4:=WL s 4 af
 have hq8:=WL s 8 af
 have c1:=Ws c.gl s false 2 (n2 s 0) rfl af aP
 have c2:=Ws c.gl (s.drop 2) false 2 (n2 s 2) rfl (by rw[List.length_drop];omega) aP
 have c3:=Ws c.gl (s.drop 4) false 4 (n4 s 4) rfl (by rw[List.length_drop];omega) aP
 have c4:=Ws c.gl (s.drop 8) false 4 (n4 s 8) rfl (by rw[List.length_drop];omega) aP
 have c5:=Ws c.gl (s.drop 12) false 4 (n4 s 12) rfl (by rw[List.length_drop];omega) aP
 rw[hNv]at c2
 (refine XG ?_;((try (repeat' with_reducible refine And.intro ?_ ?_));(try any_goals (first|refine zm ?_|exact CL|fail))))
 ((first|refine Qx (ins:=[1]) c1 ?_ ?_|refine Qt (ins:=[1]) c1 ?_ ?_|refine Qs (ins:=[1]) c1 ?_ ?_|refine Qq (ins:=[1]) c1 ?_ ?_)<;>(have au:=@List.drop_drop.{0};refine XG ?_;clear au;(try first|exact rfl|exact True.intro);((try (repeat' with_reducible refine And.intro ?_ ?_));(try any_goals (first|refine zm ?_|exact CL|fail)))))
 ((first|refine Qx (ins:=[1]) c2 ?_ ?_|refine Qt (ins:=[1]) c2 ?_ ?_|refine Qs (ins:=[1]) c2 ?_ ?_|refine Qq (ins:=[1]) c2 ?_ ?_)<;>(have au:=@List.drop_drop.{0};refine XG ?_;clear au;(try first|exact rfl|exact True.intro);((try (repeat' with_reducible refine And.intro ?_ ?_));(try any_goals (first|refine zm ?_|exact CL|fail)))))
 ((first|refine Qx (ins:=[1]) c3 ?_ ?_|refine Qt (ins:=[1]) c3 ?_ ?_|refine Qs (ins:=[1]) c3 ?_ ?_|refine Qq (ins:=[1]) c3 ?_ ?_)<;>(have au:=@List.drop_drop.{0};refine XG ?_;clear au;(try first|exact rfl|exact True.intro);((try (repeat' with_reducible refine And.intro ?_ ?_));(try any_goals (first|refine zm ?_|exact CL|fail)))))
 ((first|refine Qx (ins:=[1]) c4 ?_ ?_|refine Qt (ins:=[1]) c4 ?_ ?_|refine Qs (ins:=[1]) c4 ?_ ?_|refine Qq (ins:=[1]) c4 ?_ ?_)<;>(have au:=@List.drop_drop.{0};refine XG ?_;clear au;(try first|exact rfl|exact True.intro);((try (repeat' with_reducible refine And.intro ?_ ?_));(try any_goals (first|refine zm ?_|exact CL|fail)))))
 ((first|refine Qx (ins:=[1]) c5 ?_ ?_|refine Qt (ins:=[1]) c5 ?_ ?_|refine Qs (ins:=[1]) c5 ?_ ?_|refine Qq (ins:=[1]) c5 ?_ ?_)<;>(have au:=@List.drop_drop.{0};refine XG ?_;clear au;(try first|exact rfl|exact True.intro);((try (repeat' with_reducible refine And.intro ?_ ?_));(try any_goals (first|refine zm ?_|exact CL|fail)))))
 clear c1 c2 c3 c4 c5
 (refine Qa (fun h2=>?_) (fun h2=>?_)<;>try exact h2.elim)
 ·rw[HJ h1 fun h=>by obtain ⟨_,a2,a3,a4,a5⟩:=h;omega]at he
  subst he
  (refine XG ?_;((try (repeat' with_reducible refine And.intro ?_ ?_));(try any_goals (first|refine zm ?_|exact CL|fail))))
  rfl
 have hd:qf s:=⟨by omega,by omega,by omega,by omega,by omega⟩
 have E6:=On s 16 af
 have hs3:=On s 18 af
 have c6:=Ws c.gl (s.drop 16) false 2 (n2 s 16) rfl (by rw[List.length_drop];omega) aP
 have c7:=Ws c.gl (s.drop 18) false 2 (n2 s 18) rfl (by rw[List.length_drop];omega) aP
 (refine XG ?_;((try (repeat' with_reducible refine And.intro ?_ ?_));(try any_goals (first|refine zm ?_|exact CL|fail))))
 ((first|refine Qx (ins:=[1]) c6 ?_ ?_|refine Qt (ins:=[1]) c6 ?_ ?_|refine Qs (ins:=[1]) c6 ?_ ?_|refine Qq (ins:=[1]) c6 ?_ ?_)<;>(have au:=@List.drop_drop.{0};refine XG ?_;clear au;(try first|exact rfl|exact True.intro);((try (repeat' with_reducible refine And.intro ?_ ?_));(try any_goals (first|refine zm ?_|exact CL|fail)))))
 ((first|refine Qx (ins:=[1]) c7 ?_ ?_|refine Qt (ins:=[1]) c7 ?_ ?_|refine Qs (ins:=[1]) c7 ?_ ?_|refine Qq (ins:=[1]) c7 ?_ ?_)<;>(have au:=@List.drop_drop.{0};refine XG ?_;clear au;(try first|exact rfl|exact True.intro);((try (repeat' with_reducible refine And.intro ?_ ?_));(try any_goals (first|refine zm ?_|exact CL|fail)))))
 clear c6 c7
 (refine Qa (fun h3=>?_) (fun h3=>?_)<;>try exact h3.elim)
 ·rw[Oo h1 hd fun h=>by obtain ⟨a2,a3⟩:=h;omega]at he
  subst he
  (refine XG ?_;((try (repeat' with_reducible refine And.intro ?_ ?_));(try any_goals (first|refine zm ?_|exact CL|fail))))
  rfl
 have hs:rZ s:=⟨by omega,by omega⟩
 (have au:=@aJ;refine XG ?_;clear au;((try (repeat' with_reducible refine And.intro ?_ ?_));(try any_goals (first|refine zm ?_|exact CL|fail))))
 (refine Qa (fun h4=>?_) (fun h4=>?_)<;>try exact h4.elim)
 ·rw[Oq h1 hd hs h4]at he
  subst he
  (refine XG ?_;((try (repeat' with_reducible refine And.intro ?_ ?_));(try any_goals (first|refine zm ?_|exact CL|fail))))
  rfl
 (refine XG ?_;((try (repeat' with_reducible refine And.intro ?_ ?_));(try any_goals (first|refine zm ?_|exact CL|fail))))
 (refine Qa (fun h5=>?_) (fun h5=>?_)<;>try exact h5.elim)
 ·have ht:=htm (n4 s 8)
  have e4:kB (n4 s 8) 0 2 (Kc 6)=.aU [.str (Yq l.length 0 2 (Kc 6)),.int .i64 0]:=by rw[h4];exact if_pos af
  rw[e4]at ht
  have pN:(Yq l.length 0 2 (Kc 6)).length=48:=by rw[HE,Cf 6 af]
  (refine XG ?_;((try (repeat' with_reducible refine And.intro ?_ ?_));(try any_goals (first|refine zm ?_|exact CL|fail))))
  ((first|apply Xt|apply Xl|apply Xd|apply Xb)<;>(first|exact ht|(have au:=@pN;refine XG ?_;clear au;first|exact rfl|exact True.intro|((try (repeat' with_reducible refine And.intro ?_ ?_));(try any_goals (first|refine zm ?_|exact CL|fail))))))
  (refine Qa (fun h6=>?_) (fun h6=>?_)<;>try exact h6.elim)
  ·rw[Ot h1 hd hs h4 h5 h6]at he
   subst he
   (refine XG ?_;((try (repeat' with_reducible refine And.intro ?_ ?_));(try any_goals (first|refine zm ?_|exact CL|fail))))
   rfl
  ·rw[HM h1 hd hs h4 h5 h6]at he
   (refine XG ?_;((try (repeat' with_reducible refine And.intro ?_ ?_));(try any_goals (first|refine zm ?_|exact CL|fail))))
   refine ⟨⟨f,l,true,s.drop (Je s)⟩,⟨he,?_,?_⟩,⟨[],?_⟩,?_⟩
   ·dsimp only;rw[List.length_drop];omega
   ·dsimp only;rw[List.length_drop];omega
   ·(refine XG ?_;((try (repeat' with_reducible refine And.intro ?_ ?_));(try any_goals (first|refine zm ?_|exact CL|fail))))
   ·dsimp only;rw[List.length_drop];omega
 (refine XG ?_;((try (repeat' with_reducible refine And.intro ?_ ?_));(try any_goals (first|refine zm ?_|exact CL|fail))))
 (refine Qa (fun h7=>?_) (fun h7=>?_)<;>try exact h7.elim)
 ·rw[Ou h1 hd hs h4 h5 h7]at he
  subst he
  (refine XG ?_;((try (repeat' with_reducible refine And.intro ?_ ?_));(try any_goals (first|refine zm ?_|exact CL|fail))))
  rfl
 have h7:k=true:=by simpa using h7
 have Ow:=Ycv (Je s) af
 (refine XG ?_;((try (repeat' with_reducible refine And.intro ?_ ?_));(try any_goals (first|refine zm ?_|exact CL|fail))))
 have Bd:20≤Je s:=by omega
 have jk:Je s≤s.length:=by omega
 by_cases h8:Je s=20∨(Je s - 20) % 21≠0
 ·rw[Ov h1 hd hs h4 h5 h7 h8]at he
  subst he
  (refine Qa (fun h9=>?_) (fun h9=>?_)<;>try exact h9.elim)
  ·(refine XG ?_;((try (repeat' with_reducible refine And.intro ?_ ?_));(try any_goals (first|refine zm ?_|exact CL|fail))))
   rfl
  ·rw[Ow]at h9
   omega
 rw[HO h1 hd hs h4 h5 h7 h8]at he
 (refine Qa (fun h9=>?_) (fun h9=>?_)<;>try exact h9.elim)
 ·rw[Ow]at h9
  omega
 (refine XG ?_;((try (repeat' with_reducible refine And.intro ?_ ?_));(try any_goals (first|refine zm ?_|exact CL|fail))))
 have fo:((s.take (Je s)).drop 20).length=21 * ((Je s - 20) / 21):=by rw[List.length_drop,List.length_take];omega
 rw[List.drop_take]at fo he
 generalize hB:(s.drop 20).take (Je s - 20)=B at *
 generalize hM:(Je s - 20) / 21=M at *
 generalize hV:tq (n4 s 4) M l B=V at *
 refine Xs (fun x:EvI=>tq (n4 s 4) x.m x.l x.b=V∧x.b.length=21 * x.m∧x.l.length + x.m≤l.length + M) (fun x=>⟨[(0,.str s),(4,.sl 5 0 0 x.l.length x.l.length),(5,.bool true),(6,.ptr 1 0),(8,.int .i64 (Je s)),(9,.int .i64 (n4 s 4))],[(0,.cells (Yr x.l)),(1,.cells [.str x.b,.bool false])],2⟩) (fun x=>x.m) Og.mixed hN
  ⟨⟨M,l,B⟩,⟨hV,fo,Nat.le_refl _⟩,[],by (have au:=@hB;have aH:=@aJ;have aV:=@h7;refine XG ?_;clear au aH aV;((try (repeat' with_reducible refine And.intro ?_ ?_));(try any_goals (first|refine zm ?_|exact CL|fail))))⟩ fun ⟨m,l',b⟩ ⟨hv,gG,gF⟩=>?_
 dsimp only at hv gG gF
 have Eu:=wa l'
 (refine XG ?_;((try (repeat' with_reducible refine And.intro ?_ ?_));(try any_goals (first|refine zm ?_|exact CL|fail))))
 (refine Qa (fun eH=>?_) (fun eH=>?_)<;>try exact eH.elim)
 ·have fq:0 < b.length:=List.length_pos_iff.2 eH
  obtain ⟨m,rfl⟩:∃ j,m=j + 1:=⟨m - 1,by omega⟩
  have ed:=Xtu c.gl b false af
  rw[tq]at hv
  clear hB hV Ow
  cases Ci:u6 b with
  | none =>
   rw[Ci]at ed hv
   dsimp only at hv
   subst hv
   dsimp only at he
   subst he
   unfold Eo En at ed
   (refine XG ?_;((try (repeat' with_reducible refine And.intro ?_ ?_));(try any_goals (first|refine zm ?_|exact CL|fail))))
   ((first|refine Qx (ins:=[1]) ed ?_ ?_|refine Qt (ins:=[1]) ed ?_ ?_|refine Qs (ins:=[1]) ed ?_ ?_|refine Qq (ins:=[1]) ed ?_ ?_)<;>(refine XG ?_;(try first|exact rfl|exact True.intro);((try (repeat' with_reducible refine And.intro ?_ ?_));(try any_goals (first|refine zm ?_|exact CL|fail)))))
   (refine Qa (fun g1=>?_) (fun g1=>?_)<;>try exact g1.elim)
   (refine XG ?_;((try (repeat' with_reducible refine And.intro ?_ ?_));(try any_goals (first|refine zm ?_|exact CL|fail))))
   rfl
  | some e =>
   rw[Ci]at ed hv
   have bf:=Xpn Ci
   obtain ⟨t,sb,a,bk,fr⟩:=e
   obtain ⟨t0,t1,s0',s1,a0,a1,k0,k1⟩:=bf
   dsimp only at hv t0 t1 s0' s1 a0 a1 k0 k1
   unfold Eo Ev.enc at ed
   dsimp only at ed
   have Ew:t.tmod 4294967296=t % 4294967296:=Int.tmod_eq_emod_of_nonneg t0
   (refine XG ?_;((try (repeat' with_reducible refine And.intro ?_ ?_));(try any_goals (first|refine zm ?_|exact CL|fail))))
   ((first|refine Qx (ins:=[1]) ed ?_ ?_|refine Qt (ins:=[1]) ed ?_ ?_|refine Qs (ins:=[1]) ed ?_ ?_|refine Qq (ins:=[1]) ed ?_ ?_)<;>(refine XG ?_;(try first|exact rfl|exact True.intro);((try (repeat' with_reducible refine And.intro ?_ ?_));(try any_goals (first|refine zm ?_|exact CL|fail)))))
   (refine Qa (fun g1=>?_) (fun g1=>?_)<;>try exact g1.elim)
   by_cases uu:l'=[]
   ·have e6:decide (0 < (l'.length:Int))=false:=by subst uu;rfl
    (have au:=@Ew;have aH:=@e6;refine XG ?_;clear au aH;((try (repeat' with_reducible refine And.intro ?_ ?_));(try any_goals (first|refine zm ?_|exact CL|fail))))
    (refine Qa (fun g2=>?_) (fun g2=>?_)<;>try exact g2.elim)
    ·have kU:¬ (t % 4294967296=n4 s 4∧(l'=[]∨l8 l'≤t)):=fun h=>by have:=h.1;omega
     rw[if_neg kU]at hv
     subst hv
     dsimp only at he
     subst he
     (refine XG ?_;((try (repeat' with_reducible refine And.intro ?_ ?_));(try any_goals (first|refine zm ?_|exact CL|fail))))
     rfl
    ·have kU:(t % 4294967296=n4 s 4∧(l'=[]∨l8 l'≤t)):=⟨by omega,.inl uu⟩
     rw[if_pos kU]at hv
     (refine XG ?_;((try (repeat' with_reducible refine And.intro ?_ ?_));(try any_goals (first|refine zm ?_|exact CL|fail))))
     ((first|apply qs|apply qt|apply qu|apply qw|apply qx|apply qy);(refine XG ?_;((try (repeat' with_reducible refine And.intro ?_ ?_));(try any_goals (first|refine zm ?_|exact CL|fail)))))
     ((first|apply qs|apply qt|apply qu|apply qw|apply qx|apply qy);(have au:=@Eu;refine XG ?_;clear au;((try (repeat' with_reducible refine And.intro ?_ ?_));(try any_goals (first|refine zm ?_|exact CL|fail)))))
     refine ⟨⟨m,l'++[(⟨t,sb,a,bk,fr⟩:Ev)],b.drop 21⟩,⟨hv,?_,?_⟩,⟨[(0,4)],?_⟩,?_⟩
     ·dsimp only;rw[List.length_drop];omega
     ·dsimp only;rw[List.length_append];simp only[List.length_cons,List.length_nil];omega
     ·have eG:=WO l' t sb a bk fr
      have q8:(l'++[(⟨t,sb,a,bk,fr⟩:Ev)]).length=l'.length + 1:=by simp
      (have au:=@eG;have aH:=@q8;refine XG ?_;clear au aH;((try (repeat' with_reducible refine And.intro ?_ ?_));(try any_goals (first|refine zm ?_|exact CL|fail))))
     ·dsimp only;omega
   ·have rW:=Xnr l' uu
    have hlp:0 < l'.length:=List.length_pos_iff.2 uu
    have e5:((l'.length:Int) - 1).toNat=l'.length - 1:=by omega
    have e6:decide (0 < (l'.length:Int))=true:=by simp;omega
    (have au:=@Ew;have aH:=@rW;have aV:=@e5;have bD:=@e6;refine XG ?_;clear au aH aV bD;((try (repeat' with_reducible refine And.intro ?_ ?_));(try any_goals (first|refine zm ?_|exact CL|fail))))
    (refine Qa (fun g2=>?_) (fun g2=>?_)<;>try exact g2.elim)
    ·have kU:¬ (t % 4294967296=n4 s 4∧(l'=[]∨l8 l'≤t)):=fun h=>by
      rcases h with ⟨q1,q2|q2⟩
      ·exact uu q2
      ·omega
     rw[if_neg kU]at hv
     subst hv
     dsimp only at he
     subst he
     (refine XG ?_;((try (repeat' with_reducible refine And.intro ?_ ?_));(try any_goals (first|refine zm ?_|exact CL|fail))))
     rfl
    ·have kU:(t % 4294967296=n4 s 4∧(l'=[]∨l8 l'≤t)):=⟨by omega,.inr af⟩
     rw[if_pos kU]at hv
     (refine XG ?_;((try (repeat' with_reducible refine And.intro ?_ ?_));(try any_goals (first|refine zm ?_|exact CL|fail))))
     ((first|apply qs|apply qt|apply qu|apply qw|apply qx|apply qy);(refine XG ?_;((try (repeat' with_reducible refine And.intro ?_ ?_));(try any_goals (first|refine zm ?_|exact CL|fail)))))
     ((first|apply qs|apply qt|apply qu|apply qw|apply qx|apply qy);(have au:=@Eu;refine XG ?_;clear au;((try (repeat' with_reducible refine And.intro ?_ ?_));(try any_goals (first|refine zm ?_|exact CL|fail)))))
     refine ⟨⟨m,l'++[(⟨t,sb,a,bk,fr⟩:Ev)],b.drop 21⟩,⟨hv,?_,?_⟩,⟨[(0,4)],?_⟩,?_⟩
     ·dsimp only;rw[List.length_drop];omega
     ·dsimp only;rw[List.length_append];simp only[List.length_cons,List.length_nil];omega
     ·have eG:=WO l' t sb a bk fr
      have q8:(l'++[(⟨t,sb,a,bk,fr⟩:Ev)]).length=l'.length + 1:=by simp
      (have au:=@eG;have aH:=@q8;refine XG ?_;clear au aH;((try (repeat' with_reducible refine And.intro ?_ ?_));(try any_goals (first|refine zm ?_|exact CL|fail))))
     ·dsimp only;omega
 ·have Gw:m=0:=by rw[List.length_eq_zero_iff.2 (by simpa using eH)]at gG;omega
  subst Gw
  rw[tq]at hv
  subst hv
  dsimp only at he
  (refine XG ?_;((try (repeat' with_reducible refine And.intro ?_ ?_));(try any_goals (first|refine zm ?_|exact CL|fail))))
  refine ⟨⟨f,l',k,s.drop (Je s)⟩,⟨he,?_,?_⟩,⟨[],?_⟩,?_⟩
  ·dsimp only;rw[List.length_drop];omega
  ·dsimp only;rw[List.length_drop];omega
  ·(have au:=@h7;refine XG ?_;clear au;((try (repeat' with_reducible refine And.intro ?_ ?_));(try any_goals (first|refine zm ?_|exact CL|fail))))
  ·dsimp only;rw[List.length_drop];omega
theorem yO (a b c:List UInt8) (k n:Nat) (ha:a.length=k) (hb:b.length=n):((a++(b++c)).drop k).take n=b:=by
 subst ha;subst hb
 rw[List.drop_left,List.take_left]
theorem Xjk (q t set:Int) (bs rest:List UInt8) :
  n2 (Yq q t set bs++rest) 0=cn (be 10 2)∧n2 (Yq q t set bs++rest) 2=cn (be (20 + bs.length) 2)∧n4 (Yq q t set bs++rest) 4=cn (be (t.tmod 4294967296) 4)∧n4 (Yq q t set bs++rest) 8=cn (be q 4) ∧
  n4 (Yq q t set bs++rest) 12=cn (be 1 4)∧n2 (Yq q t set bs++rest) 16=cn (be set 2)∧n2 (Yq q t set bs++rest) 18=cn (be (4 + bs.length) 2):=by
 have hl:∀ (v:Int) (n:Nat),(be v n).length=n:=fun v n=>Qi v n
 unfold Yq n2 n4
 simp only[List.append_assoc]
 generalize e1:be 10 2=x1
 generalize e2:be (20 + bs.length) 2=x2
 generalize e3:be (t.tmod 4294967296) 4=x3
 generalize e4:be q 4=x4
 generalize e5:be 1 4=x5
 generalize e6:be set 2=x6
 generalize e7:be (4 + bs.length) 2=x7
 have l1:x1.length=2:=by rw[← e1,hl]
 have l2:x2.length=2:=by rw[← e2,hl]
 have l3:x3.length=4:=by rw[← e3,hl]
 have l4:x4.length=4:=by rw[← e4,hl]
 have l5:x5.length=4:=by rw[← e5,hl]
 have l6:x6.length=2:=by rw[← e6,hl]
 have l7:x7.length=2:=by rw[← e7,hl]
 refine ⟨?_,?_,?_,?_,?_,?_,?_⟩
 ·have:=yO [] x1 (x2++(x3++(x4++(x5++(x6++(x7++(bs++rest))))))) 0 2 rfl l1
  rw[List.nil_append]at this;rw[this]
 ·rw[yO x1 x2 _ 2 2 l1 l2]
 ·have:=yO (x1++x2) x3 (x4++(x5++(x6++(x7++(bs++rest))))) 4 4 (by simp[l1,l2]) l3
  simp only[List.append_assoc]at this;rw[this]
 ·have:=yO (x1++(x2++x3)) x4 (x5++(x6++(x7++(bs++rest)))) 8 4 (by simp[l1,l2,l3]) l4
  simp only[List.append_assoc]at this;rw[this]
 ·have:=yO (x1++(x2++(x3++x4))) x5 (x6++(x7++(bs++rest))) 12 4 (by simp[l1,l2,l3,l4]) l5
  simp only[List.append_assoc]at this;rw[this]
 ·have:=yO (x1++(x2++(x3++(x4++x5)))) x6 (x7++(bs++rest)) 16 2 (by simp[l1,l2,l3,l4,l5]) l6
  simp only[List.append_assoc]at this;rw[this]
 ·have:=yO (x1++(x2++(x3++(x4++(x5++x6))))) x7 (bs++rest) 18 2 (by simp[l1,l2,l3,l4,l5,l6]) l7
  simp only[List.append_assoc]at this;rw[this]
structure pn (q t set:Int) (bs:List UInt8):Prop where
 q0:0≤q∧q < 4294967296
 t0:0≤t∧t < 4294967296
 s0:set=2∨set=300
 b0:bs.length≤10000
theorem pn.yP {q t set:Int} {bs rest:List UInt8} (h:pn q t set bs):n2 (Yq q t set bs++rest) 0=10∧n2 (Yq q t set bs++rest) 2=20 + bs.length∧n4 (Yq q t set bs++rest) 4=t∧n4 (Yq q t set bs++rest) 8=q ∧
  n4 (Yq q t set bs++rest) 12=1∧n2 (Yq q t set bs++rest) 16=set∧n2 (Yq q t set bs++rest) 18=4 + bs.length:=by
 obtain ⟨⟨q0,q1⟩,⟨t0,t1⟩,s0,b0⟩:=h
 obtain ⟨p1,p2,p3,p4,p5,p6,p7⟩:=Xjk q t set bs rest
 have et:t.tmod 4294967296=t:=by rw[Int.tmod_eq_emod_of_nonneg t0];omega
 rw[p1,p2,p3,p4,p5,p6,p7,et]
 refine ⟨Ux _ _ aP aP aP aP,Ux _ _ aP af af af,Ux _ _ aP t0 af af,Ux _ _ aP q0 af af,
  Ux _ _ aP aP aP aP,Ux _ _ aP af af af,Ux _ _ aP af af af⟩
theorem pn.ok {q t set:Int} {bs rest:List UInt8} (h:pn q t set bs):Yq q t set bs++rest≠[]∧qf (Yq q t set bs++rest)∧rZ (Yq q t set bs++rest)∧Je (Yq q t set bs++rest)=20 + bs.length ∧
  (Yq q t set bs++rest).take (20 + bs.length)=Yq q t set bs∧(Yq q t set bs++rest).drop (20 + bs.length)=rest:=by
 obtain ⟨p1,p2,p3,p4,p5,p6,p7⟩:=h.yP (rest:=rest)
 have hl:=HE q t set bs
 have hs:=h.s0
 refine ⟨fun e=>?_,⟨?_,p1,by omega,?_,p5⟩,⟨by omega,by omega⟩,by unfold Je;omega,?_,?_⟩
 ·have:=congrArg List.length e
  rw[List.length_append,hl]at this;simp at this
 ·rw[List.length_append,hl];omega
 ·rw[List.length_append,hl];omega
 ·rw[← hl,List.take_left]
 ·rw[← hl,List.drop_left]
theorem Xyp (f:Nat) (k:Bool) (rest:List UInt8):Yv (f + 1) [] k (Yq 0 0 2 (Kc 6)++rest)=Yv f [] true rest:=by
 have h:pn 0 0 2 (Kc 6):=⟨by decide,by decide,.inl rfl,by rw[Cf 6 af];decide⟩
 obtain ⟨a1,a2,a3,a4,a5,a6⟩:=h.ok (rest:=rest)
 obtain ⟨_,_,_,p4,_,p6,_⟩:=h.yP (rest:=rest)
 rw[HM a1 a2 a3 (by rw[p4];rfl) p6 (by rw[a4,a5];rfl),a4,a6]
def Be (t:Int) (p:List Ev):Prop:=∀ e ∈ p,e.bR∧e.t=t
theorem WR:∀ (n:Nat) (f:Nat) (l:List Ev) (k:Bool) (s:List UInt8),s.length≤n→n≤f→Yv f l k s=Yv n l k s
 | 0,f,l,k,s,h,hf=>by
  have:s=[]:=List.eq_nil_of_length_eq_zero af
  subst this;rw[yN,yN]
 | n + 1,0,l,k,s,h,hf=>by omega
 | n + 1,f + 1,l,k,s,h,hf=>by
  have ih:=fun l k (s:List UInt8) hs=>WR n f l k s hs af
  by_cases h0:s=[]
  ·subst h0;rw[yN,yN]
  by_cases h1:qf s
  rotate_left
  ·rw[HJ h0 h1,HJ h0 h1]
  by_cases h2:rZ s
  rotate_left
  ·rw[Oo h0 h1 h2,Oo h0 h1 h2]
  by_cases h3:n4 s 8=l.length
  rotate_left
  ·rw[Oq h0 h1 h2 h3,Oq h0 h1 h2 h3]
  have hn:20≤Je s:=by obtain ⟨_,_,a3,_,_⟩:=h1;unfold Je;omega
  have dU:0 < s.length:=List.length_pos_iff.2 h0
  by_cases h4:n2 s 16=2
  ·by_cases h5:Yq l.length 0 2 (Kc 6)=s.take (Je s)
   ·rw[HM h0 h1 h2 h3 h4 h5,HM h0 h1 h2 h3 h4 h5]
    exact ih _ _ _ (by rw[List.length_drop];omega)
   ·rw[Ot h0 h1 h2 h3 h4 h5,Ot h0 h1 h2 h3 h4 h5]
  cases k with
  | false=>rw[Ou h0 h1 h2 h3 h4 rfl,Ou h0 h1 h2 h3 h4 rfl]
  | true =>
   by_cases h6:Je s=20∨(Je s - 20) % 21≠0
   ·rw[Ov h0 h1 h2 h3 h4 rfl h6,Ov h0 h1 h2 h3 h4 rfl h6]
   ·rw[HO h0 h1 h2 h3 h4 rfl h6,HO h0 h1 h2 h3 h4 rfl h6]
    split
    ·rfl
    ·exact ih _ _ _ (by rw[List.length_drop];omega)
theorem Xsr (q t set:Int) (bs:List UInt8) (ht:0≤t):Yq q t set bs=Yq q (t % 4294967296) set bs:=by
 unfold Yq
 rw[Int.tmod_eq_emod_of_nonneg ht,Int.tmod_eq_emod_of_nonneg (Int.emod_nonneg t aP),Int.emod_emod]
theorem WS {t u:Int} (ht:t % 4294967296=u):∀ (p l:List Ev),Be t p→(l=[]∨l8 l≤t)→tq u p.length l (Kx p)=some (l++p)
 | [],l,_,_=>by rw[List.append_nil];rfl
 | e::p,l,hp,hl=>by
  obtain ⟨he,het⟩:=hp e av
  show tq u (p.length + 1) l (lI e++Kx p)=_
  rw[tq,Ye1 e he]
  have hc:e.t % 4294967296=u∧(l=[]∨l8 l≤e.t):=by rw[het];exact ⟨ht,hl⟩
  dsimp only
  rw[if_pos hc,show 21=(lI e).length from (UZ e).symm,List.drop_left]
  rw[WS ht p (l++[e]) (fun x hx=>hp x (by simp[hx])) (.inr ?_)]
  ·rw[List.append_assoc];rfl
  ·unfold l8
   rw[List.length_append]
   simp[het]
theorem Yb6 (f:Nat) (l p:List Ev) (t:Int) (rest:List UInt8) (ht:0≤t) (hp:Be t p) (h0:p≠[]) (Bd:p.length≤400) (hq:l.length < 4000000) (hl:l=[]∨l8 l≤t) :
  Yv (f + 1) l true (Yq l.length t 300 (Kx p)++rest)=Yv f (l++p) true rest:=by
 have fo:=A0 p
 rw[Xsr _ _ _ _ ht]
 obtain ⟨u,hu⟩:∃ u,t % 4294967296=u:=⟨_,rfl⟩
 have h1:=Int.emod_nonneg t (show (4294967296:Int)≠0 by decide)
 have h2:=Int.emod_lt_of_pos t (show (0:Int) < 4294967296 by decide)
 rw[hu]at h1 h2 ⊢
 have h:pn l.length u 300 (Kx p):=⟨by omega,⟨h1,h2⟩,.inr rfl,by omega⟩
 obtain ⟨a1,a2,a3,a4,a5,a6⟩:=h.ok (rest:=rest)
 obtain ⟨_,_,p3,p4,_,p6,_⟩:=h.yP (rest:=rest)
 have dU:0 < p.length:=List.length_pos_iff.2 h0
 rw[HO a1 a2 a3 p4 (by rw[p6];decide) rfl (by rw[a4];omega),a4,a5,a6,p3]
 have e1:(20 + (Kx p).length - 20) / 21=p.length:=by omega
 have e2:(Yq l.length u 300 (Kx p)).drop 20=Kx p:=by
  unfold Yq
  have hh:(be 10 2++be (20 + (Kx p).length) 2++be (u.tmod 4294967296) 4++be (l.length:Int) 4++be 1 4++be 300 2++be (4 + (Kx p).length) 2).length=20:=by simp[Qi]
  rw[show 20=(be 10 2++be (20 + (Kx p).length) 2++be (u.tmod 4294967296) 4++be (l.length:Int) 4++be 1 4++be 300 2++be (4 + (Kx p).length) 2).length from hh.symm,List.drop_left]
 rw[e1,e2,WS hu p l hp hl]
structure j1 (qg:Nat) (s:List UInt8) (all:List Ev):Prop where
 read:∀ f rest,Yv (qg + f) [] false (s++rest)=Yv f all true rest
theorem j1.ok {qg:Nat} {s:List UInt8} {all:List Ev} (h:j1 qg s all):Es s=.ok all:=by
 have h1:=h.read 0 []
 rw[List.append_nil,yN]at h1
 have h2:=WR s.length (qg + s.length) [] false s (Nat.le_refl _) af
 have h3:=h.read s.length []
 rw[List.append_nil,yN,h2]at h3
 exact h3
theorem Xb1:j1 1 (Yq 0 0 2 (Kc 6)) []:=⟨fun f rest=>by rw[Nat.add_comm];exact Xyp f false rest⟩
theorem WU {qg:Nat} {s:List UInt8} {all p:List Ev} {t:Int} (h:j1 qg s all) (ht:0≤t) (hp:Be t p) (h0:p≠[]) (Bd:p.length≤400) (hq:all.length < 4000000) (hl:all=[]∨l8 all≤t) :
  j1 (qg + 1) (s++Yq all.length t 300 (Kx p)) (all++p) :=
 ⟨fun f rest=>by rw[List.append_assoc,Nat.add_assoc,Nat.add_comm 1 f,h.read,Yb6 f all p t rest ht hp h0 Bd hq hl]⟩
def Bf (s:List UInt8) (all:List Ev):Prop:=(s=[]∧all=[])∨∃ qg,j1 qg s all
theorem Bf.ok {s:List UInt8} {all:List Ev} (h:Bf s all):Es s=.ok all:=by
 rcases h with ⟨rfl,rfl⟩|⟨qg,h⟩
 ·rfl
 ·exact h.ok
theorem Xkt {t:Int} {all p:List Ev} (h:Be t p) (h0:p≠[]):l8 (all++p)=t:=by
 unfold l8
 have hl:=List.length_pos_iff.2 h0
 have hi:all.length + p.length - 1 - all.length=p.length - 1:=by omega
 rw[List.length_append,List.getD_eq_getElem?_getD,List.getElem?_append_right af,hi,← List.getD_eq_getElem?_getD]
 have hm:p.getD (p.length - 1) WM ∈ p:=by
  have:p.length - 1 < p.length:=by omega
  simp[this]
 exact (h _ hm).2
theorem Bf.more {s:List UInt8} {all p:List Ev} {t:Int} (h:Bf s all) (hs:all=[]→s=[]) (ht:0≤t) (hp:Be t p) (Bd:p.length≤400) (hq:all.length < 4000000) (hl:all=[]∨l8 all≤t) (told:Nat) (gT:told=all.length) :
  Bf (s++jD told p) (all++p)∧(all++p=[]→s++jD told p=[]):=by
 subst gT
 by_cases h0:p=[]
 ·subst h0
  have:jD all.length ([]:List Ev)=[]:=by simp[jD]
  rw[this,List.append_nil,List.append_nil]
  exact ⟨h,hs⟩
 ·refine ⟨.inr ?_,fun e=>absurd (List.append_eq_nil_iff.1 e).2 h0⟩
  have Bg:(p.headD ⟨0,0,0,0,false⟩).t=t:=by
   cases p with
   | nil=>exact absurd rfl h0
   | cons e p=>exact (hp e av).2
  unfold jD
  rw[if_neg h0,Bg]
  by_cases ha:all=[]
  ·subst ha
   rw[hs rfl,if_pos (by rfl)]
   exact ⟨2,by
    have:=WU Xb1 ht hp h0 Bd aP (.inl rfl)
    simpa using this⟩
  ·rcases h with ⟨_,h⟩|⟨qg,h⟩
   ·exact absurd h ha
   ·rw[if_neg (by intro e;exact ha (List.length_eq_zero_iff.1 e)),List.nil_append]
    exact ⟨qg + 1,WU h ht hp h0 Bd hq hl⟩
section
variable {h h0 h1 ex ex':List (Nat × Bk)} {m n n' b:Nat}
theorem Xa8 {f g:Nat→Nat} {m:Nat} (h:∀ b,b < m→f b=g b) {x:Bk} (hx:bJ m x):Xg f x=Xg g x:=Ko h hx
end
structure yQ (m:Mp):Prop where
 ae:m.ae=1∨m.ae=6∨m.ae=17
 s:0≤m.s∧m.s < 8
 aR:0≤m.aR∧m.aR≤65535
 a:0≤m.a∧m.a < 3
 port:1024≤m.port∧m.port < 1072
theorem GT.u7 {t:Tb} (h:GT t) {m:Mp} (hm:m ∈ t.maps):yQ m:=by
 have Ox:=h.maps m hm
 obtain ⟨h1,h2,h3⟩:=Wd Ox.1.1
 exact ⟨h1,h2,h3,Ox.1.2.2,(LP Ox.1.2.1).2.2⟩
theorem Qzl (o:List Int) (e:Ev) (l:List Ev):Us o (e::l)=match uP o e with
 | (some o',_)=>Us o' l
 | (none,k)=>(List.replicate 18 0,k):=rfl
theorem Qvb {o:List Int} {e:Ev} {k:Int} (h:uP o e=(none,k)):k≠0:=by
 unfold uP at h
 split at h
 ·have:=congrArg Prod.snd h;dsimp only at this;omega
 dsimp only at h
 split at h
 ·have:=congrArg Prod.snd h;dsimp only at this;omega
 split at h
 ·have:=congrArg Prod.snd h;dsimp only at this;omega
 ·have:=congrArg Prod.fst h;cases this
theorem Oy:∀ (a b:List Ev) (o o1:List Int),Us o a=(o1,0)→Us o (a++b)=Us o1 b
 | [],b,o,o1,h=>by
  obtain rfl:o=o1:=congrArg Prod.fst h
  rfl
 | e::a,b,o,o1,h=>by
  rw[List.cons_append]
  rw[Qzl]at h ⊢
  cases hs:uP o e with
  | mk x k =>
   rw[hs]at h
   cases x with
   | some o'=>exact Oy a b o' o1 h
   | none=>exact absurd (congrArg Prod.snd h) (Qvb hs)
theorem WV {o o1:List Int} {e:Ev} (h:uP o e=(some o1,0)):Us o [e]=(o1,0):=by
 unfold Us
 rw[h]
 rfl
structure mW (p q:ay) (t:Int) (es:List Ev):Prop where
 one:Be t es
 own:Us p.own es=(q.own,0)
theorem mW.nil {p q:ay} {t:Int} (h:p.own=q.own):mW p q t []:=⟨fun e he=>absurd he (by simp),by rw[← h];rfl⟩
theorem mW.app {p q r:ay} {t:Int} {a b:List Ev} (h:mW p q t a) (g:mW q r t b):mW p r t (a++b) :=
 ⟨fun e he=>(List.mem_append.1 he).elim (h.one e) (g.one e),by rw[Oy a b _ _ h.own];exact g.own⟩
theorem WW {t s a b:Int} {f:Bool} (h:Zo t s a b=true):(⟨t,s,a,b,f⟩:Ev).bR:=(Ol ⟨t,s,a,b,f⟩).1 h
theorem WX {t:Tb} (hw:t.aq.wf) (pr s i a d:Int) (n:Nat) (hn:n≤549755813888) :
  mW t.aq (t.tk pr s i a d).1.aq n (if (t.tk pr s i a d).2.2.1 then [⟨n,(t.tk pr s i a d).2.1.s,(t.tk pr s i a d).2.1.a,Xk (t.tk pr s i a d).2.1.port,false⟩] else []):=by
 unfold Tb.tk
 split
 ·exact .nil rfl
 ·rename_i h0
  have h0:=Decidable.not_not.1 h0
  unfold ay.take at h0 ⊢
  split at h0
  rotate_left
  ·exact absurd h0 av
  split at h0
  rotate_left
  ·exact absurd h0 av
  rename_i hg hr
  obtain ⟨b,hb,jT⟩:=Ay a hr.1
  subst hb
  simp only[Int.toNat_natCast]at h0 ⊢
  split at h0
  ·exact absurd h0 av
  split at h0
  ·exact absurd h0 av
  rename_i hd hl
  obtain ⟨hk,hz⟩:=Sv t.aq hw b d jT hl
  rw[if_pos hg,if_pos hr]
  simp only[hd,hl,if_false,if_neg hd]
  have hp:=(GI (q:=t.aq.jQ b d) (i:=0) hk aP).2
  have hp:Xk (1024 + (t.aq.jQ b d:Int) * 8)=t.aq.jQ b d:=by simpa using hp
  have bf:Zo n s b (t.aq.jQ b d)=true:=by
   unfold Zo
   simp only[Bool.and_eq_true,decide_eq_true_eq]
   omega
  show mW t.aq (t.aq.put b (t.aq.jQ b d) (s + 1)) n [⟨n,s,b,Xk (1024 + (t.aq.jQ b d:Int) * 8),false⟩]
  rw[hp]
  refine ⟨fun e he=>?_,WV ?_⟩
  ·obtain rfl:=List.mem_singleton.1 he
   exact ⟨WW bf,rfl⟩
  ·unfold uP
   rw[if_neg (by rw[bf];decide)]
   have hi:((b:Int) * 6 + (t.aq.jQ b d:Int)).toNat=b * 6 + t.aq.jQ b d:=by omega
   dsimp only
   rw[hi,if_neg,if_neg]
   ·rfl
   ·intro h;cases h.1
   ·intro h;exact h.2 hz
theorem Xxj {t:Tb} (hw:t.aq.wf) (pr s i d:Int) (n:Nat) (hn:n≤549755813888) :
  mW t.aq (t.cz pr s i d).1.aq n (if (t.cz pr s i d).2.2.1 then [⟨n,(t.cz pr s i d).2.1.s,(t.cz pr s i d).2.1.a,Xk (t.cz pr s i d).2.1.port,false⟩] else []):=by
 unfold Tb.cz
 split
 ·exact .nil rfl
 split
 ·exact .nil rfl
 split
 ·exact .nil rfl
 split
 ·exact .nil rfl
 split
 ·exact .nil rfl
 split
 ·exact WX hw _ _ _ _ _ n hn
 split
 ·exact .nil rfl
 ·exact WX hw _ _ _ _ _ n hn
theorem Yax {t:Tb} (ht:GT t) (hw:t.wf) {m:Mp} (hm:m ∈ t.maps) (n:Nat) (hn:n≤549755813888) :
  mW t.aq (t.cls m).1.aq n (if (t.cls m).2.1 then [⟨n,m.s,m.a,Xk m.port,true⟩] else []):=by
 unfold Tb.cls
 split
 ·exact .nil rfl
 split
 ·exact .nil rfl
 ·rename_i i _
  split
  ·exact .nil rfl
  ·obtain ⟨bW,_,gQ⟩:=ht.maps m hm
   obtain ⟨k1,k2⟩:=vS m.port
   have WY:=ht.u7 hm
   have ha:=WY.a
   have hs:=WY.s
   have bf:Zo n m.s m.a (Xk m.port)=true:=by
    unfold Zo
    simp only[Bool.and_eq_true,decide_eq_true_eq]
    omega
   have Dl:t.aq.bX m.s m.a (Xk m.port)=(t.aq.put m.a.toNat (Xk m.port).toNat 0,0):=by
    unfold ay.bX
    rw[if_pos ht.aq,if_pos ⟨by unfold Wa;simp;omega,k1,k2,hs.1,gQ⟩]
   have hp:((t.del i).bX m).aq=t.aq.put m.a.toNat (Xk m.port).toNat 0:=by
    unfold Tb.bX
    have:(t.del i).aq=t.aq:=rfl
    rw[this,Dl]
    split<;>rfl
   show mW t.aq ((t.del i).bX m).aq n [⟨n,m.s,m.a,Xk m.port,true⟩]
   rw[hp]
   refine ⟨fun e he=>?_,WV ?_⟩
   ·obtain rfl:=List.mem_singleton.1 he
    exact ⟨WW bf,rfl⟩
   ·unfold uP
    rw[if_neg (by rw[bf];decide)]
    have hi:(m.a * 6 + Xk m.port).toNat=m.a.toNat * 6 + (Xk m.port).toNat:=by omega
    dsimp only
    rw[hi,if_neg,if_neg]
    ·rfl
    ·intro h;exact h.2 gQ
    ·intro h;cases h.1
theorem Xwe {x:NS × List Ev} (hx:NJ x.1) (k:Int):∃ es,(cj x k).2=x.2++es∧mW x.1.tb.aq (cj x k).1.tb.aq x.1.now es:=by
 unfold cj
 split
 ·exact ⟨[],(List.append_nil _).symm,.nil rfl⟩
 rename_i q hq
 dsimp only
 split
 ·exact ⟨[],(List.append_nil _).symm,.nil rfl⟩
 ·have hm:q.2.map ∈ x.1.tb.maps:=hx.kj q (List.mem_of_find?_eq_some hq)
  have:=Yax hx.gt hx.wf hm x.1.now hx.now
  refine ⟨_,?_,this⟩
  dsimp only
  split
  ·rfl
  ·rw[List.append_nil]
theorem WZ {S:NS} (hS:NI S) {d:Int} (hd:¬ (d < 1∨549755813888 - S.now < d)):∀ i,i≤(S.ended d).length→mW S.tb.aq (S.j0 d i).1.tb.aq (S.now + d.toNat:Nat) (S.j0 d i).2
 | 0,_=>.nil rfl
 | i + 1,h=>by
  have ih:=WZ hS hd i af
  have hE:=NU hS hd i
  obtain ⟨es,e,he⟩:=Xwe (x:=S.j0 d i) hE.nj ((S.ended d)[i])
  rw[VQ S d i h,e]
  have dO:((S.j0 d i).1.now:Int)=((S.now + d.toNat:Nat):Int):=by rw[hE.now];rfl
  rw[dO]at he
  exact ih.app he
structure j2 (S S':NS) (r:Rp) (es:List Ev):Prop where
 log:r.log=jD S.told es
 told:S'.told=S.told + es.length
 now:S.now≤S'.now
 len:es.length≤48
 ev:mW S.tb.aq S'.tb.aq S'.now es
theorem j2.none {S S':NS} {r:Rp} (h1:r.log=[]) (h2:S'.told=S.told) (h3:S'.now=S.now) (h4:S'.tb.aq.own=S.tb.aq.own):j2 S S' r [] :=
 ⟨by rw[h1];rfl,h2,by rw[h3];exact Nat.le_refl _,by simp,.nil h4.symm⟩
theorem W0 (S:NS) (f:List UInt8):(S.aR f).1.log=[]∧(S.aR f).2.told=S.told∧(S.aR f).2.now=S.now∧(S.aR f).2.tb=S.tb:=by
 rw[Hs]
 repeat' split
 all_goals exact ⟨rfl,rfl,rfl,rfl⟩
theorem W1 (S:NS) (f:List UInt8) (m:Mp) (es:List Ev):(S.dQ f m es).1.log=jD S.told es∧(S.dQ f m es).2.told=S.told + es.length∧(S.dQ f m es).2.now=S.now∧(S.dQ f m es).2.tb=S.tb:=by
 rw[D8]
 split
 ·obtain ⟨_,h2,h3,h4⟩:=W0 (S.log es) (Zf f 0 (3405803777 + m.a) m.port)
  exact ⟨rfl,h2,h3,h4⟩
 ·exact ⟨rfl,rfl,rfl,rfl⟩
theorem W3 (S:NS) (f:List UInt8) (e:Int):j2 S (S.refuse f e).2 (S.refuse f e).1 []:=by
 unfold NS.refuse
 split<;>exact .none rfl rfl rfl rfl
theorem Xt5 {S:NS} (hS:NJ S) (f:List UInt8) (d:Int):∃ es,j2 S (S.out f d).2 (S.out f d).1 es:=by
 rw[DY]
 split
 ·exact ⟨[],.none rfl rfl rfl rfl⟩
 split
 ·exact ⟨[],.none rfl rfl rfl rfl⟩
 split
 ·exact ⟨[],.none rfl rfl rfl rfl⟩
 split
 ·exact ⟨[],.none rfl rfl rfl rfl⟩
 split
 ·split
  ·rename_i m _
   obtain ⟨h1,h2,h3,h4⟩:=W1 (S.goes (S.cQ (aB f)) (aB f) false) f m []
   exact ⟨[],.none h1 h2 h3 (by rw[h4];rfl)⟩
  ·exact ⟨[],.none rfl rfl rfl rfl⟩
 split
 ·exact ⟨[],.none rfl rfl rfl rfl⟩
 split
 ·exact ⟨[],W3 ..⟩
 split
 ·exact ⟨[],W3 ..⟩
 ·unfold NS.opened
  have hE:=Xxj hS.wf.aq (aB f).ae ((aB f).aA - 167772161) (aB f).ah d S.now hS.now
  generalize S.tb.cz (aB f).ae ((aB f).aA - 167772161) (aB f).ah d=o at *
  refine ⟨if o.2.2.1 then [⟨S.now,o.2.1.s,o.2.1.a,Xk o.2.1.port,false⟩] else [],?_⟩
  obtain ⟨h1,h2,h3,h4⟩:=W1 (({ S with tb:=o.1 }:NS).begin ⟨o.2.1,(aB f).dst,(aB f).aj,pY (aB f).ae,0,0⟩) f o.2.1 (if o.2.2.1 then [({ S with tb:=o.1 }:NS).ev o.2.1 false] else [])
  refine ⟨h1,h2,by rw[h3];exact Nat.le_refl _,by split<;>simp,?_⟩
  rw[h3,h4]
  exact hE
theorem W4 {S:NS} (hS:NK S) (a:Ac):∃ es,j2 S (S.step a).2 (S.step a).1 es:=by
 have h1:=hS.toNI.eD (S.aF + 1)
 unfold NS.step
 split
 ·exact ⟨[],.none rfl rfl rfl rfl⟩
 dsimp only
 split
 ·obtain ⟨es,h⟩:=Xt5 h1.toNJ a.frame a.draw
  exact ⟨es,h.log,h.told,h.now,h.len,h.ev⟩
 split
 ·obtain ⟨g1,g2,g3,g4⟩:=W0 { S with aF:=S.aF + 1 } a.frame
  exact ⟨[],.none g1 g2 g3 (by rw[g4])⟩
 split
 ·rw[A7]
  split
  ·exact ⟨[],.none rfl rfl rfl rfl⟩
  ·rename_i hd
   obtain ⟨es,e,hE,_,hl⟩:=h1.rS hd
   have ed:=WZ h1 hd _ (Nat.le_refl _)
   unfold NS.j0 at ed
   rw[List.take_length]at ed
   have dO:=hE.now
   rw[e]at ed
   refine ⟨es,by rw[e],?_,?_,by omega,?_⟩
   ·show (NS.log _ _).told=_
    rw[e]
    show (((({ S with aF:=S.aF + 1 }:NS).ended a.n).foldl cj (({ S with aF:=S.aF + 1 }:NS).later a.n,[])).1).told + es.length=_
    rw[hE.told];rfl
   ·show S.now≤(((({ S with aF:=S.aF + 1 }:NS).ended a.n).foldl cj (({ S with aF:=S.aF + 1 }:NS).later a.n,[])).1).now
    rw[dO];exact Nat.le_add_right _ _
   ·show mW S.tb.aq (((({ S with aF:=S.aF + 1 }:NS).ended a.n).foldl cj (({ S with aF:=S.aF + 1 }:NS).later a.n,[])).1).tb.aq ((((({ S with aF:=S.aF + 1 }:NS).ended a.n).foldl cj (({ S with aF:=S.aF + 1 }:NS).later a.n,[])).1).now:Nat) es
    rw[dO]
    exact ed
 split
 ·refine ⟨[],.none rfl ?_ ?_ ?_⟩
  ·split<;>rfl
  ·split<;>rfl
  ·split
   ·show (S.tb.aq.drain a.n _).1.own=_
    unfold ay.drain
    split
    ·split<;>rfl
    ·rfl
   ·rfl
 ·exact ⟨[],.none rfl rfl rfl rfl⟩
structure HP (S:NS) (log:List UInt8) (all:List Ev):Prop where
 r:Bf log all
 e:all=[]→log=[]
 told:S.told=all.length
 last:all=[]∨l8 all≤S.now
 own:Us (List.replicate 18 0) all=(S.tb.aq.own,0)
theorem HP.step {S S':NS} {log:List UInt8} {all es:List Ev} {r:Rp} (h:HP S log all) (hq:all.length < 4000000) (g:j2 S S' r es):HP S' (log++r.log) (all++es):=by
 have hn:=g.now
 have hm:=h.r.more h.e (Int.natCast_nonneg S'.now) g.ev.one (by have:=g.len;omega) hq (h.last.imp id fun x=>by omega) S.told h.told
 rw[g.log]
 refine ⟨hm.1,hm.2,by rw[g.told,h.told,List.length_append],?_,by rw[Oy all es _ _ h.own];exact g.ev.own⟩
 by_cases he:es=[]
 ·subst he
  rw[List.append_nil]
  exact h.last.imp id fun x=>by omega
 ·exact .inr (by rw[Xkt g.ev.one he];exact Int.le_refl _)
section
variable {P:Program}
theorem Xq7 {gl : Nat → AV} {f : FuncId} {fn : Func} {code : Code} {t : TC} {rs : List RS} {args : List AV} {aI : List (Nat × Bk)} {m : Nat} {r : AV} {ax : List (Nat × Bk)} {n : Nat} (hm : P.follows .mixedOrders = true) (hf : P.funcs[f]? = some fn) (hb : fn.body = some code) (dW : (fn.name == "runtime.NumGoroutine") = false)
  (he:Jf P fn.ntmps code=some t) (hr:m8 P fn.results.toList=some rs) (hN:args.length≤fn.ntmps) (aO:∀ q ∈ aI,q.2.live)
  (h:∀ c:Cx,(∀ q ∈ c.gh,q.1 ∈ List.range m)→c.gl=gl→xw P c t (Ej m rs r ax n) ⟨js 0 args,aI,m⟩):GS P gl f args aI m r ax n:=by
 refine ⟨⟨fn,hf,by rw[hb];rfl,dW⟩,fun w vs G X g jJ hv=>?_⟩
 refine calls_of_wp hf hb ?_
 have jl:∀ b,b < m→g b≠.un:=fun b gG e=>by
  have:=jJ.h b
  rw[e]at this
  have hh:(cV aI m).H b=Qc aI m b:=rfl
  rw[hh]at this
  rcases Zs aI m b with q|⟨q0,hp,_,q⟩
  ·rw[q,if_pos gG]at this;cases this;rename_i h;exact h rfl
  ·rw[q]at this
   have hl:=aO q0 hp
   cases hx:q0.2 with
   | free=>rw[hx]at hl;exact hl.elim
   | dead=>rw[hx]at hl;exact hl.elim
   | cells cs=>rw[hx]at this;cases this
   | aC kvs dn=>rw[hx]at this;cases this
   | bm kvs bs ck=>rw[hx]at this;cases this
   | iter b0 ck seen=>rw[hx]at this;cases this
   | db ls=>rw[hx]at this;cases this with|db _ h=>cases h
 have gN:∀ q ∈ (List.range m).map (fun b=>(b,g b)),g q.1=q.2∧q.2≠.un:=fun q hp=>by
  obtain ⟨b,gG,rfl⟩:=List.mem_map.1 hp
  exact ⟨rfl,jl b (List.mem_range.1 gG)⟩
 have a7:∀ q ∈ (List.range m).map (fun b=>(b,g b)),q.1 ∈ List.range m:=fun q hp=>by
  obtain ⟨b,gG,rfl⟩:=List.mem_map.1 hp
  exact gG
 have hR:=FH (N:=fn.ntmps) hN jJ hv gN
 have:=vn (c:=⟨fn.ntmps,w,G,X,gl,(List.range m).map (fun b=>(b,g b))⟩) hm code t _ _ he (h _ a7 rfl) _ _ _ hR
 refine wp_mono this fun e a' w' hq=>?_
 have fin:∀ (g1:Nat→GM) (s:St),R ⟨fn.ntmps,w,G,X,gl,(List.range m).map (fun b=>(b,g b))⟩ g1 s.fs a' w'→(Wt s.fs rs∧To (List.range m) ⟨[(0,fY s.fs rs)],s.h,s.n⟩ ⟨[(0,r)],ax,n⟩) →
   a'.defers=[]∧∃ v,(results fn a'.tmps).run P w'=.ok v w'∧(∃ nc g',Ending.returned v=.returned nc∧R ⟨0,w,G,X,gl,[]⟩ g' (cV ax n) ⟨#[],[]⟩ w'∧(∀ b,b < m→g' b=g b)∧VR g' (Qo ⟨0,w,G,X,gl,[]⟩ g' (cV ax n)) w' r nc):=by
  intro g1 s bg ⟨h1,h3⟩
  obtain ⟨v,h4,h5⟩:=BQ bg hr h1
  refine ⟨bg.dL,v,h4,v,?_⟩
  have cu:R ⟨1,w,G,X,gl,(List.range m).map (fun b=>(b,g b))⟩ g1 (⟨[(0,fY s.fs rs)],s.h,s.n⟩:St).fs ⟨#[v],[]⟩ w':=by
   refine ⟨rfl,rfl,fun i=>?_,bg.gl,bg.h,bg.inj,bg.old,bg.fr,bg.xs,bg.ib⟩
   show VR g1 _ w' (look [(0,fY s.fs rs)] i) _
   rw[Zn]
   split
   ·rename_i hi;subst hi;exact h5
   ·exact .any _
  obtain ⟨g2,bV⟩:=h3 _ g1 _ _ a7 cu
  refine ⟨g2,rfl,⟨rfl,rfl,fun i=>.any _,bV.gl,bV.h,bV.inj,bV.old,bV.fr,bV.xs,fun q hp=>by cases hp⟩,fun b hb=>?_,?_⟩
  ·exact (bV.ib (b,g b) (List.mem_map.2 ⟨b,List.mem_range.2 hb,rfl⟩)).1
  ·exact bV.t 0
 cases e with
 | normal=>obtain ⟨g,s,bg,cF⟩:=hq;exact fin g s bg cF
 | ret=>obtain ⟨g,s,bg,cF⟩:=hq;exact fin g s bg cF
 | exit i=>obtain ⟨g,s,bg,cF⟩:=hq;exact cF.elim
 | goto l=>exact hq.elim
 | panic ch=>exact hq.elim
 | outgrown=>exact hq.elim
theorem FT.gsU {P:Program} {gl:Nat→AV} {f:FuncId} {fn:Func} {t:TC} {rs:List RS} (hF:FT P f fn t rs) {args:List AV} {aI:List (Nat × Bk)} {m:Nat} {r:AV} {ax:List (Nat × Bk)} {n:Nat} (hN:args.length≤fn.ntmps) (aO:∀ q ∈ aI,q.2.live)
  (h:∀ c:Cx,(∀ q ∈ c.gh,q.1 ∈ List.range m)→c.gl=gl→xw P c t (Ej m rs r ax n) ⟨js 0 args,aI,m⟩):GS P gl f args aI m r ax n:=by
 have hc:=hF.code
 cases hb:fn.body with
 | none=>rw[hb]at hc;simp at hc
 | some code =>
  rw[hb]at hc
  exact Xq7 hF.mixed hF.func hb hF.name hc hF.res hN aO h
end
section
variable {P:Program} {c:Cx}
theorem W5 {r0:List bG} {K:St→Prop} {d:Option Nat} {f:FuncId} {xs:List TV} {args:List AV} {aI:List (Nat × Bk)} {m:Nat} {r:AV} {ax:List (Nat × Bk)} {n:Nat} {t:List (Nat × AV)} (eM:GS P c.gl f args aI m r ax n) (H:HL aI m) (H1:HL ax n) (hle:m≤n) (hr:Qe n r)
  (hc:Qv none (aG c.gl (⟨t,aI,m⟩:St).fs xs)∧(aG c.gl (⟨t,aI,m⟩:St).fs xs).map Qk=args∧ai m args) (hx:XP P c r0 K (St.bQ ⟨t,ax,n⟩ d r)):Yh P c (.pd d (.call f) xs none) r0 K ⟨t,aI,m⟩:=by
 refine .inl ⟨_,_,J0 (σ:=fun b=>b) (N:=List.range n) (args:=args) eM (fun o ys aJ tX s2 g a w hT hR=>?_) (fun b b' _ _ e=>e) (fun p hp=>⟨(H.mem p hp).1,(H.mem p hp).2,?_⟩) (fun b hb=>H.fN b hb) hle (fun b h1 h2=>?_) (fun p hp=>H1.mem p hp) hr hc.2.2 (fun b hb=>List.mem_range.2 hb) (fun j hj=>⟨j,List.mem_range.1 hj,rfl⟩) (fun i=>?_) (fun b hb=>?_) (fun j hj=>?_),hx⟩
 ·obtain ⟨ts,bl⟩:=wV aJ
  subst tX
  have bp:aG c.gl s2 (ys.map aT)=aG c.gl (⟨t,aI,m⟩:St).fs (ys.map aT):=Yi fun i hi=>hT i hi
  have hv:=Yn (hR.aG ys) (by rw[bp];exact hc.1)
  rw[bp,hc.2.1]at hv
  refine ⟨_,wW eM.1 bl a w,?_⟩
  rw[show (fun b:Nat=>b)=id from rfl,Jy]
  exact hv
 ·show Qc aI m p.1=Xg (fun b=>b) p.2
  rw[show (fun b:Nat=>b)=id from rfl,Wg]
  exact H.self p hp
 ·show Qc aI m b=.free
  rw[H.hi m b h1,if_neg af]
 ·cases d with
  | none=>rfl
  | some d=>show look ((d,r)::t) i=_;rw[Zn];rw[ql _ (fun _=>rfl)];rfl
 ·have e:(St.bQ ⟨t,ax,n⟩ d r).fs.H b=Qc ax n b:=by cases d<;>rfl
  rw[e]
  show _=qA id (Qc ax n b)
  generalize Qc ax n b=x
  cases x<;>first|rfl|exact Wg.symm
 ·have e:(St.bQ ⟨t,ax,n⟩ d r).fs.H j=Qc ax n j:=by cases d<;>rfl
  rw[e]
  have hj:n≤j:=by simpa using hj
  rw[H1.hi n j hj,if_neg af]
  show _=Qc aI m j
  rw[H.hi m j af,if_neg af]
end
mutual
theorem Bh {ρ:Nat→Nat} {n m:Nat} (h:∀ b,b < n→ρ b < m):∀ v:AV,Qe n v→Qe m (aE ρ v)
 | .dw _ v,hv=>by simp only[aE,Qe]at hv ⊢;exact Bh h v hv
 | .agg cs,hv=>by simp only[aE,Qe]at hv ⊢;exact cH h cs hv
 | .aU cs,hv=>by simp only[aE,Qe]at hv ⊢;exact cH h cs hv
 | .xp cs _,hv=>by simp only[aE,Qe]at hv ⊢;exact cH h cs hv
 | .isl _ cs,hv=>by simp only[aE,Qe]at hv ⊢;exact cH h cs hv
 | .cl _ cs,hv=>by simp only[aE,Qe]at hv ⊢;exact cH h cs hv
 | .ptr b _,hv=>by simp only[aE,Qe]at hv ⊢;exact h b hv
 | .sl _ b _ _ _,hv=>by simp only[aE,Qe]at hv ⊢;exact h b hv
 | .mp b,hv=>by simp only[aE,Qe]at hv ⊢;exact h b hv
 | .int _ _,_=>by simp[aE,Qe]
 | .bool _,_=>by simp[aE,Qe]
 | .str _,_=>by simp[aE,Qe]
 | .nils,_=>by simp[aE,Qe]
 | .lit _,_=>by simp[aE,Qe]
 | .any,_=>by simp[aE,Qe]
theorem cH {ρ:Nat→Nat} {n m:Nat} (h:∀ b,b < n→ρ b < m):∀ l:List AV,ai n l→ai m (az ρ l)
 | [],_=>by simp[az,ai]
 | x::xs,hv=>by
  simp only[az,ai]at hv ⊢
  exact ⟨Bh h x hv.1,cH h xs hv.2⟩
end
theorem Xy5 {ρ:Nat→Nat} {n m:Nat} (h:∀ b,b < n→ρ b < m) {x:Bk} (hx:bJ n x):bJ m (Xg ρ x):=by
 cases x with
 | cells cs=>exact cH h cs hx
 | aC kvs dn =>
  intro p hp
  obtain ⟨q,hq,rfl⟩:=List.mem_map.1 hp
  exact ⟨Bh h _ (hx q hq).1,Bh h _ (hx q hq).2⟩
 | bm kvs bs ck =>
  intro p hp
  obtain ⟨q,hq,rfl⟩:=List.mem_map.1 hp
  exact ⟨Bh h _ (hx q hq).1,Bh h _ (hx q hq).2⟩
 | iter b ck seen=>exact h b hx
 | db ls=>exact hx
 | free=>exact hx.elim
 | dead=>exact hx.elim
def sw (k b:Nat):Nat:=if b < 70 then k + b else b - 70
theorem W6 {k b b':Nat} (h:b < 70 + k) (h':b' < 70 + k) (e:sw k b=sw k b'):b=b':=by
 unfold sw at e
 split at e<;>split at e<;>omega
theorem Ex {k b:Nat} (h:b < 70 + k):sw k b < k + 70:=by
 unfold sw
 split<;>omega
theorem Xy8 {k j:Nat} (h:j < k + 70):∃ b,b < 70 + k∧sw k b=j:=by
 by_cases hj:j < k
 ·exact ⟨j + 70,by omega,by unfold sw;rw[if_neg af];omega⟩
 ·exact ⟨j - k,by omega,by unfold sw;rw[if_pos af];omega⟩
theorem HL.swap {h:List (Nat × Bk)} {k:Nat} (H:HL h (70 + k)):HL (Xc (sw k) h) (k + 70) where
 mem q hq:=by
  obtain ⟨x,hx,rfl⟩:=List.mem_map.1 hq
  obtain ⟨h1,h2⟩:=H.mem x hx
  exact ⟨Ex h1,Xy5 (fun b hb=>Ex hb) h2⟩
 fN b hb:=by
  obtain ⟨a,ha,rfl⟩:=Xy8 hb
  obtain ⟨q,hq,rfl⟩:=H.fN a ha
  exact ⟨_,List.mem_map.2 ⟨q,hq,rfl⟩,rfl⟩
 self q hq:=by
  obtain ⟨x,hx,rfl⟩:=List.mem_map.1 hq
  have h1:=(H.mem x hx).1
  show Qc (Xc (sw k) h) (k + 70) (sw k x.1)=Xg (sw k) x.2
  rw[Kb (fun b b' hb bL e=>W6 hb bL e) h1 (fun q hq=>(H.mem q hq).1) (H.fN x.1 h1),H.self x hx]
structure Bx (h:List (Nat × Bk)) (k:Nat):Prop extends HL h k where
 no:∀ q ∈ h,bJ 0 q.2
theorem W7 {ρ:Nat→Nat} {x:Bk} (h:bJ 0 x):Xg ρ x=x:=(Ko (g:=id) (fun j hj=>by omega) h).trans Wg
theorem Yfa {h:List (Nat × Bk)} (n j:Nat):Qc (up h) (70 + n) (j + 70)=Qc h n j:=by
 induction h with
 | nil =>
  show (if j + 70 < 70 + n then Bk.dead else Bk.free)=if j < n then .dead else .free
  by_cases h:j < n
  ·rw[if_pos h,if_pos af]
  ·rw[if_neg h,if_neg af]
 | cons q h ih =>
  show Qc ((q.1 + 70,q.2)::up h) _ _=Qc ((q.1,q.2)::h) _ _
  rw[Qd,Qd,ih]
  by_cases e:q.1=j
  ·rw[if_pos e,if_pos af]
  ·rw[if_neg e,if_neg af]
theorem HQ {n j:Nat} {B:List (Nat × Bk)}:∀ {A:List (Nat × Bk)},(∃ q ∈ A,q.1=j)→Qc (A++B) n j=Qc A n j
 | [],⟨q,hq,_⟩=>by cases hq
 | (i,x)::A,⟨q,hq,e⟩=>by
  rw[List.cons_append,Qd,Qd]
  by_cases h:i=j
  ·rw[if_pos h,if_pos h]
  ·rw[if_neg h,if_neg h]
   refine HQ ⟨q,?_,e⟩
   rcases List.mem_cons.1 hq with rfl|hq
   ·exact (h e).elim
   ·exact hq
theorem Bx.hl {h:List (Nat × Bk)} {k:Nat} (B:Bx h k) {S:NS} {T:WT} (hT:T.wf):HL (up h++Qm S T) (70 + k) where
 mem q hq:=by
  rcases List.mem_append.1 hq with hq|hq
  ·obtain ⟨x,hx,rfl⟩:=List.mem_map.1 hq
   have:=(B.mem x hx).1
   exact ⟨by show x.1 + 70 < _;omega,oT (Nat.zero_le _) (B.no x hx)⟩
  ·obtain ⟨h1,h2⟩:=(Qj hT).mem q hq
   exact ⟨by omega,oT af h2⟩
 fN b hb:=by
  by_cases h:b < 70
  ·obtain ⟨q,hq,e⟩:=(Qj (S:=S) hT).fN b h
   exact ⟨q,List.mem_append_right _ hq,e⟩
  ·obtain ⟨q,hq,e⟩:=B.fN (b - 70) af
   exact ⟨_,List.mem_append_left _ (List.mem_map.2 ⟨q,hq,rfl⟩),by show q.1 + 70=b;omega⟩
 self q hq:=by
  have iY:∀ q ∈ up h,70≤q.1:=fun q hq=>by
   obtain ⟨x,hx,rfl⟩:=List.mem_map.1 hq
   exact Nat.le_add_left _ _
  rcases List.mem_append.1 hq with hq|hq
  ·obtain ⟨x,hx,rfl⟩:=List.mem_map.1 hq
   have h1:=(B.mem x hx).1
   have h2:=B.self x hx
   show Qc (up h++Qm S T) (70 + k) (x.1 + 70)=x.2
   rw[HQ ⟨_,hq,rfl⟩,Yfa,h2]
  ·have:=((Qj hT).mem q hq).1
   rw[Xn fun y hy e=>by have:=iY y hy;omega,(Qj hT).lo this,(Qj hT).self q hq]
theorem Oz {h:List (Nat × Bk)} {k:Nat} (B:Bx h k) {S:NS} {T:WT} (hT:T.wf):Xc (sw k) (up h++Qm S T)=h++Xc (fun b=>k + b) (Qm S T):=by
 have e1:Xc (sw k) (up h++Qm S T)=Xc (sw k) (up h)++Xc (sw k) (Qm S T):=List.map_append
 have e2:Xc (sw k) (Qm S T)=Xc (fun b=>k + b) (Qm S T):=Nn (Qj hT) fun b hb=>if_pos hb
 have e3:Xc (sw k) (up h)=h:=by
  unfold Xc up
  rw[List.map_map]
  refine (List.map_congr_left fun q hq=>?_).trans (List.map_id h)
  show (sw k (q.1 + 70),Xg (sw k) q.2)=q
  rw[W7 (B.no q hq)]
  unfold sw
  rw[if_neg af]
  simp
 rw[e1,e2,e3]
theorem W8 (ρ τ:Nat→Nat):∀ v:AV,aE ρ (aE τ v)=aE (fun b=>ρ (τ b)) v:=by
 intro v
 exact AV.rec (motive_1:=fun v=>aE ρ (aE τ v)=aE (fun b=>ρ (τ b)) v) (motive_2:=fun l=>az ρ (az τ l)=az (fun b=>ρ (τ b)) l) (by simp[aE]) (fun b v h=>by simp[aE,h]) (fun _ _=>by simp[aE]) (fun _=>by simp[aE]) (fun _=>by simp[aE])
  (fun cs h=>by simp[aE,h]) (fun cs h=>by simp[aE,h]) (fun _ _=>by simp[aE]) (fun cs _ h=>by simp[aE,h]) (fun _ _ _ _ _=>by simp[aE]) (fun _ cs h=>by simp[aE,h]) (by simp[aE])
  (fun _ cs h=>by simp[aE,h]) (fun _=>by simp[aE]) (fun _=>by simp[aE]) (by simp[az]) (fun x xs h1 h2=>by simp[az,h1,h2]) v
theorem Xk7 (ρ τ:Nat→Nat) (x:Bk):Xg ρ (Xg τ x)=Xg (fun b=>ρ (τ b)) x:=by
 have hl:∀ l,az ρ (az τ l)=az (fun b=>ρ (τ b)) l:=fun l=>by
  rw[Yu,Yu,Yu,List.map_map]
  exact List.map_congr_left fun v _=>W8 ρ τ v
 cases x<;>simp[Xg,hl,W8,Function.comp]
theorem Bx.hk {h:List (Nat × Bk)} {k:Nat} (B:Bx h k) {S:NS} {T:WT} (hT:T.wf):HL (h++Xc (fun b=>k + b) (Qm S T)) (k + 70):=by
 rw[← Oz B hT];exact (B.hl hT).swap
theorem To.pk {h:List (Nat × Bk)} {k n:Nat} (B:Bx h k) {S:NS} {T:WT} (hT:T.wf) (hn:k + 70≤n) {d:Option Nat} {r:AV} {t t':List (Nat × AV)}
  (ht:Qy (fun j=>if j < k then j else cD (fun b=>k + b) [67] n (j - k)) (k + 70) (yL d (aE (cD (fun b=>k + b) [67] n) r) t) t'):To (List.range k) (Jb t h (Qm S T) (fun b=>k + b) [67] 70 n d r) ⟨t',h++Xc (fun b=>k + b) (Qm S T),k + 70⟩:=by
 have hs:∀ b,b < 70→cD (fun b=>k + b) [67] n b=k + 67∧b=67∨cD (fun b=>k + b) [67] n b=n + b∧b≠67:=fun b hb=>by
  by_cases e:b=67
  ·subst e;exact .inl ⟨Wm av,rfl⟩
  ·exact .inr ⟨Wr (by simpa using e),e⟩
 have bU:∀ b b',b < 70→b' < 70→cD (fun b=>k + b) [67] n b=cD (fun b=>k + b) [67] n b'→b=b':=fun b b' h1 h2 e=>by
  rcases hs b h1 with ⟨q1,q2⟩|⟨q1,q2⟩<;>rcases hs b' h2 with ⟨q3,q4⟩|⟨q3,q4⟩<;>omega
 have key:To (List.range k) ⟨yL d (aE (cD (fun b=>k + b) [67] n) r) t,h++Xc (cD (fun b=>k + b) [67] n) (Qm S T),n + 70⟩ ⟨t',h++Xc (fun b=>k + b) (Qm S T),k + 70⟩:=by
  refine To.lY _ (B.hk hT) (fun b hb=>?_) (fun b b' h1 h2 e=>?_) (fun b hb=>?_) ht
  ·have hb:=List.mem_range.1 hb
   exact ⟨if_pos hb,by omega⟩
  ·by_cases c1:b < k<;>by_cases c2:b' < k
   ·rw[if_pos c1,if_pos c2]at e;exact e
   ·rw[if_pos c1,if_neg c2]at e
    rcases hs (b' - k) (by omega) with ⟨q1,_⟩|⟨q1,_⟩<;>omega
   ·rw[if_neg c1,if_pos c2]at e
    rcases hs (b - k) (by omega) with ⟨q1,_⟩|⟨q1,_⟩<;>omega
   ·rw[if_neg c1,if_neg c2]at e
    have:=bU _ _ af af e
    omega
  ·by_cases c1:b < k
   ·rw[if_pos c1,HQ (B.fN b c1),HQ (B.fN b c1),B.lo c1 (n + 70),B.lo c1 (k + 70)]
    obtain ⟨_,q,hq,_,e⟩:=B.live c1 k
    rw[e]
    exact (W7 (B.no q hq)).symm
   ·have jb:b - k < 70:=by omega
    have bN:∀ j,k≤j→∀ q ∈ h,q.1≠j:=fun j hj q hq e=>by have:=(B.mem q hq).1;omega
    have iu:k≤cD (fun b=>k + b) [67] n (b - k):=by rcases hs (b - k) jb with ⟨q1,_⟩|⟨q1,_⟩<;>omega
    rw[if_neg c1,Xn (bN _ iu),Xn (bN b af),Kb bU jb (fun q hq=>((Qj hT).mem q hq).1) ((Qj hT).fN _ jb)]
    have eb:b=k + (b - k):=by omega
    have e2:Qc (Xc (fun b=>k + b) (Qm S T)) (k + 70) b=Xg (fun b=>k + b) (Qc (Qm S T) 70 (b - k)):=by
     conv=>lhs;rw[eb]
     exact Kb (fun b b' _ _ e=>by omega) jb (fun q hq=>((Qj hT).mem q hq).1) ((Qj hT).fN _ jb)
    rw[e2]
    have fc:=(Qj (S:=S) hT).nm jb
    generalize Qc (Qm S T) 70 (b - k)=x at *
    rw[Xk7]
    refine Xa8 (fun j hj=>?_) fc
    show _=if k + j < k then k + j else cD (fun b=>k + b) [67] n (k + j - k)
    rw[if_neg af,Nat.add_sub_cancel_left]
 cases d<;>exact key
section
variable {P:Program} {c:Cx} {aI ax ex:List (Nat × Bk)} {m n:Nat} {v:Bool} {d:Option Nat} {kk:PK} {f:FuncId} {xs:List TV} {args:List AV} {r:AV} {t:List (Nat × AV)} {r0:List bG} {K:St→Prop} {σ:Nat→Nat}
theorem Ye7 {p pp:List Nat} {s3:St} (a7:∀ q ∈ c.gh,q.1 ∈ pp) (hq:GD P c.gl f args aI m p r ax) (ok:oI c.gl xs v f args σ p m t ex aI n) (hk:kk=(bif v then .cX else .call f)) (H1:HL ax m) (hr:Qe m r) (gT:To pp (Jb t ex ax σ p m n d r) s3) (hx:XP P c r0 K s3):Yh P c (.pd d kk xs none) r0 K ⟨t,ex++Xc σ aI,n⟩:=by
 refine .inr fun ops io he g a w hR K' Q' hK=>?_
 have hA:=Ad (d:=d) hq ok hk H1 hr ops io he
 refine hA.step _ (fun _ _=>rfl) (fun _ _=>rfl) g a w hR K' Q' fun g2 a' w' bV=>?_
 rw[BE hA.bj hA.dc]at bV
 obtain ⟨g3,j8⟩:=gT c g2 a' w' a7 bV
 exact hK g3 s3 a' w' hx j8
theorem Xvb (H1:HL ax m) (hr:Qe m r):Jb t ex ax σ (List.range m) m n d r=St.bQ ⟨t,ex++Xc σ ax,n + m⟩ d (aE σ r):=by
 have e:∀ b,b < m→cD σ (List.range m) n b=σ b:=fun b hb=>Wm (List.mem_range.2 hb)
 unfold Jb
 have e2:aE (cD σ (List.range m) n) r=aE σ r:=by
  have:=Ko (x:=.cells [r]) e ⟨hr,trivial⟩
  simpa [Xg,az] using this
 rw[Nn H1 e,e2]
end
set_option maxHeartbeats 4000000 in
theorem W9 (gl:Nat→AV) (h0:gl 0=.xp (Qp Xo) 0) (b:Bool) (l:List Ac) (hl:tn l) (hlen:l.length≤140737488351232) (lk:FuncId) (caps:List AV) (X:Nat→List (Nat × Bk)) (hB:∀ i,Bx (X i) 1) (gE:ai 71 caps) (mz:ai 1 (az (sw 1) caps))
  (lT:∀ i,i < Ye l→∀ T:WT,T.wf→GD Tryz.prog gl lk (.ptr 67 0::.agg (l.getD i lZ).enc::.agg (n7 b l i).enc::caps) (up (X i)++Qm (Yo b l (i + 1)) T) 71 (List.range 71) (.bool true) (up (X (i + 1))++Qm (Yo b l (i + 1)) T)) :
  ∃ T D,WI T (Yo b l (Ye l)).now D∧D.Perm (Yo b l (Ye l)).bb∧GS Tryz.prog gl 30 [.bool b,.isl l.length (hZ l),.cl lk (az (sw 1) caps)] (X 0) 1 (.aU [.ptr 68 0,.bool true]) (X (Ye l)++Xc (fun b=>1 + b) (Qm (Yo b l (Ye l)) T)) 71:=by
 obtain ⟨Ts,Cg,Bi,rY⟩:=V6 gl h0 b l hl
 have jB:∀ i,(Ts i).wf:=fun i=>by
  obtain ⟨D,hD⟩:=Bi i
  exact hD.1.wf
 obtain ⟨D,lX,uO⟩:=Bi (Ye l)
 refine ⟨Ts (Ye l),D,lX,uO,?_⟩
 have Ey:=V5 gl h0
 have b6:=N9 gl b
 rw[← Cg]at b6
 refine HD.gsU (of_decide_eq_true rfl) (hB 0).lives fun c a7 hg=>?_
 subst hg
 conv in aQ _ _=>cbv
 have aX:=V7 l
 have kK:=yM 71 l
 have OA:=fun ρ:Nat→Nat=>show az ρ (hZ l)=hZ l by rw[Yu];exact (List.map_congr_left fun v hv=>ti (Xv.1 (yM 0 l) v hv)).trans (List.map_id _)
 have gM:Ye l≤l.length∧Ye l≤100:=⟨Nat.min_le_left _ _,Nat.min_le_right _ _⟩
 (refine XG ?_;((try (repeat' with_reducible refine And.intro ?_ ?_));(try any_goals (first|refine zm ?_|exact CL|fail))))
 ((first|apply Xt|apply Xl|apply Xd|apply Xb)<;>(first|exact Ey|(refine XG ?_;first|exact rfl|exact True.intro|((try (repeat' with_reducible refine And.intro ?_ ?_));(try any_goals (first|refine zm ?_|exact CL|fail))))))
 (refine Qa (fun h1=>?_) (fun h1=>?_)<;>try exact h1.elim)
 (refine XG ?_;((try (repeat' with_reducible refine And.intro ?_ ?_));(try any_goals (first|refine zm ?_|exact CL|fail))))
 refine DR b6 (Qj (jB 0)) ?_ (fun q hq=>((hB 0).mem q hq).1) ?_
 ·(refine XG ?_;((try (repeat' with_reducible refine And.intro ?_ ?_));(try any_goals (first|refine zm ?_|exact CL|fail))))
 have wo:Xc (fun b=>1 + b) (Qm (Yo b l 0) (Ts 0))=Xc (fun b=>1 + b) (Qm (NS.new b) (Ts 0)):=rfl
 (refine XG ?_;((try (repeat' with_reducible refine And.intro ?_ ?_));(try any_goals (first|refine zm ?_|exact CL|fail))))
 refine Yk (fun i:Nat=>i≤Ye l) (fun i=>⟨[(1,.isl l.length (hZ l)),(2,.cl lk (az (sw 1) caps)),(8,.ptr 68 0),(9,.int .i64 i)],X i++Xc (fun b=>1 + b) (Qm (Yo b l i) (Ts i)),71⟩) (fun i=>Ye l - i) HD.mixed (List.range 1) a7
  ⟨0,Nat.zero_le _,To.dH (by (refine XG ?_;((try (repeat' with_reducible refine And.intro ?_ ?_));(try any_goals (first|refine zm ?_|exact CL|fail))))) fun b=>rfl⟩ fun i hi=>?_
 (refine XG ?_;((try (repeat' with_reducible refine And.intro ?_ ?_));(try any_goals (first|refine zm ?_|exact CL|fail))))
 (refine Qa (fun h2=>?_) (fun h2=>?_)<;>try exact h2.elim)
 ·have rm:i < l.length:=by omega
  have AM:i < Ye l:=by unfold Ye;omega
  have iu:=V8 l rm
  have hd:=rY i
  have mX:=lT i AM (Ts (i + 1)) (jB (i + 1))
  have hT:=jB i
  have bu:=jB (i + 1)
  generalize l.getD i lZ=a at *
  obtain ⟨a1,a2,a3,a4⟩:=a
  have yR:∃ r1 r2 r3 r4,n7 b l i=⟨r1,r2,r3,r4⟩:=⟨_,_,_,_,rfl⟩
  obtain ⟨r1,r2,r3,r4,yR⟩:=yR
  rw[yR]at hd mX
  dsimp only[Ac.enc,Rp.enc]at iu hd mX
  (have au:=@aX;have aH:=@iu;refine XG ?_;clear au aH;((try (repeat' with_reducible refine And.intro ?_ ?_));(try any_goals (first|refine zm ?_|exact CL|fail))))
  have vf:=cH (m:=71) (fun b hb=>Ex (k:=1) hb) caps gE
  have hci:=Jy (az (sw 1) caps)
  have OB:∀ q ∈ X i,jM (fun b=>1 + b) 70 q.1∧q.1 < 71:=fun q hq=>⟨fun b hb e=>by have:=((hB i).mem q hq).1;have e:1 + b=q.1:=e;omega,by have:=((hB i).mem q hq).1;omega⟩
  refine Ye7 (v:=false) (σ:=fun b=>1 + b) (ex:=X i) (s3:=⟨[(1,.isl l.length (hZ l)),(2,.cl lk (az (sw 1) caps)),(8,.ptr 68 0),(9,.int .i64 i),(30,.agg [.int .i64 r1,.str r2,.bool r3,.str r4])],X i++Xc (fun b=>1 + b) (Qm (Yo b l (i + 1)) (Ts (i + 1))),71⟩) a7 hd ⟨fun b b' _ _ e=>by omega,fun b hb=>by omega,Qj hT,by simp,OB,?_,?_,?_⟩ rfl (Qj bu) (by simp[Qe,ai]) (To.pk (hB i) bu (Nat.le_refl _) ?_) ?_
  ·(refine XG ?_;((try (repeat' with_reducible refine And.intro ?_ ?_));(try any_goals (first|refine zm ?_|exact CL|fail))))
  ·(have au:=@Ya;refine XG ?_;clear au;((try (repeat' with_reducible refine And.intro ?_ ?_));(try any_goals (first|refine zm ?_|exact CL|fail))))
  ·(refine XG ?_;((try (repeat' with_reducible refine And.intro ?_ ?_));(try any_goals (first|refine zm ?_|exact CL|fail))))
  ·simp[yL,Qy,Qe,ai,look,aE,az,kK,OA]
   have e:=Dw (x:=.cells (az (sw 1) caps)) (ρ:=fun j=>if j=0 then j else cD (fun b=>1 + b) [67] 71 (j - 1)) (n:=1) (fun b hb=>by rw[if_pos af]) mz
   exact ⟨⟨vf,(Bk.cells.inj e).symm⟩,rfl⟩
  have aM:=fun n j (hj:71≤j)=>((hB i).hk (S:=Yo b l (i + 1)) bu).hi n j hj
  (have au:=@aM;have aH:=@aX;have aV:=@iu;refine XG ?_;clear au aH aV;((try (repeat' with_reducible refine And.intro ?_ ?_));(try any_goals (first|refine zm ?_|exact CL|fail))))
  rw[← Oz (hB i) bu]
  refine F9 (σ:=sw 1) (ex:=[(71,_),(71,_)]) (v:=true) mX ⟨fun b b' h1 h2 e=>W6 (k:=1) h1 h2 e,fun b hb=>by have:=Ex (k:=1) hb;omega,(hB i).hl bu,fun b hb=>List.mem_range.1 hb,fun q hq=>?_,?_,?_,?_⟩ rfl ((hB (i + 1)).hl bu) (by simp[Qe]) ?_
  ·have e:q.1=71:=by simp at hq;rcases hq with rfl|rfl<;>rfl
   rw[e]
   exact ⟨fun b hb e=>by have:=Ex (k:=1) hb;omega,by decide⟩
  ·(refine XG ?_;((try (repeat' with_reducible refine And.intro ?_ ?_));(try any_goals (first|refine zm ?_|exact CL|fail))))
  ·(refine XG ?_;((try (repeat' with_reducible refine And.intro ?_ ?_));(try any_goals (first|refine zm ?_|exact CL|fail))))
   exact rfl
  ·simp[ai,Qe,gE]
  rw[Xvb ((hB (i + 1)).hl bu) (by simp[Qe])]
  (refine XG ?_;((try (repeat' with_reducible refine And.intro ?_ ?_));(try any_goals (first|refine zm ?_|exact CL|fail))))
  (refine Qa (fun h3=>?_) (fun h3=>?_)<;>try exact h3.elim)
  (refine XG ?_;((try (repeat' with_reducible refine And.intro ?_ ?_));(try any_goals (first|refine zm ?_|exact CL|fail))))
  rw[Oz (hB (i + 1)) bu]
  exact ⟨i + 1,by omega,To.drop (ex:=[(71,_),(71,_)]) ((hB (i + 1)).hk bu) av av (by simp[Qy,Qe,ai,look,aE,az,kK,OA,vf,hci]),by omega⟩
 ·have e:i=Ye l:=by unfold Ye at hi ⊢;omega
  subst e
  (refine XG ?_;((try (repeat' with_reducible refine And.intro ?_ ?_));(try any_goals (first|refine zm ?_|exact CL|fail))))
  exact To.drop (ex:=[]) ((hB _).hk (jB _)) av av (by simp[Qy,Qe,ai,look,aE,az])
end Go.Proofs.YtogckmommodmhaaGreatDoor
namespace Go.Proofs.YtogckmommodmhaaGreatDoor
open Go.RowKit
set_option linter.all false
set_option linter.unusedSimpArgs false
set_option maxRecDepth 100000
theorem Bx.one {cs:List AV} (h:ai 0 cs):Bx [(0,.cells cs)] 1 where
 mem q hq:=by
  obtain rfl:=List.mem_singleton.1 hq
  exact ⟨Nat.zero_lt_one,oT (Nat.zero_le _) h⟩
 fN b hb:=⟨_,List.mem_singleton.2 rfl,by show 0=b;omega⟩
 self q hq:=by
  obtain rfl:=List.mem_singleton.1 hq
  rfl
 no q hq:=by
  obtain rfl:=List.mem_singleton.1 hq
  exact h
theorem Xt2:jK Tryz.prog 100 32=some (List.replicate 18 (.int .i64)):=by kernel_rfl
theorem XA {c:Cx} {ne:Bool} (o:List Int) (h:o.length=18):pD Tryz.prog c (.cA ne 32) [.agg (Qp o),.agg (Qp o)] (.bool (ne != true)) :=
 JL Xt2 (by kernel_rfl) (by kernel_rfl) (by rw[Oj,h]) (by rw[Oj,h]) av
theorem XB (told:Nat) (es:List Ev):(jD told es).length≤100 + 21 * es.length:=by
 unfold jD
 split
 ·simp
 ·have h1:=HE told (es.headD ⟨0,0,0,0,false⟩).t 300 (Kx es)
  have h2:=A0 es
  have h3:=HE 0 0 2 (Kc 6)
  have h4:=Cf 6 af
  rw[List.length_append]
  split
  ·omega
  ·rw[List.length_nil];omega
noncomputable def l9 (b:Bool) (l:List Ac):Nat→List UInt8
 | 0=>[]
 | i + 1=>l9 b l i++(n7 b l i).log
theorem HR (b:Bool) (l:List Ac):∀ i,∃ all,HP (Yo b l i) (l9 b l i) all∧(l9 b l i).length≤2000 * i
 | 0=>⟨[],⟨.inl ⟨rfl,rfl⟩,fun _=>rfl,rfl,.inl rfl,rfl⟩,Nat.le_refl _⟩
 | i + 1=>by
  obtain ⟨all,h,hl⟩:=HR b l i
  have hk:=u4 b l i
  obtain ⟨es,g⟩:=W4 hk (l.getD i lZ)
  have h1:=hk.qb
  have h2:=hk.act
  have h3:=h.told
  have h4:=g.len
  have h5:=XB (Yo b l i).told es
  refine ⟨all++es,h.step af g,?_⟩
  show (l9 b l i++(n7 b l i).log).length≤_
  rw[List.length_append,show (n7 b l i).log=jD (Yo b l i).told es from g.log]
  omega
end Go.Proofs.YtogckmommodmhaaGreatDoor
