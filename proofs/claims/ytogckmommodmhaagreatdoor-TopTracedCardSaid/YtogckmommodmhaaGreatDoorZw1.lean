import Derived.WalkKit
import Derived.WalkSpells
import Derived.WalkLawsBesides
import Derived.BigQuiet
import Derived.Lib.Hide
import Derived.Test.YtogckmommodmhaaGreatDoorRows
namespace Go.Proofs.YtogckmommodmhaaGreatDoor
open Go.RowKit
set_option linter.all false
set_option linter.unusedSimpArgs false
set_option maxRecDepth 100000
theorem ae {p:Prop} (h:p:=by omega):p:=h
theorem au {p:Prop} (h:p:=by simp):p:=h
theorem aI {p:Prop} (h:p:=by decide):p:=h
theorem YS (n:Nat) (h:n < 9223372036854775808):IntKind.i64.wrap (n:Int)=n:=by rw[IntKind.wrap_i64];omega
theorem YT (x:Int):bits .and .i64 x 65535=x % 65536:=by
 have h0:bits .and .i64 x 65535=IntKind.i64.wrap ((BitVec.ofInt 64 x &&& BitVec.ofInt 64 65535).toNat:Int):=rfl
 have h:((BitVec.ofInt 64 x) &&& (BitVec.ofInt 64 65535)).toNat=(x % 65536).toNat:=by
  rw[BitVec.toNat_and,BitVec.toNat_ofInt,BitVec.toNat_ofInt]
  have e:((65535:Int) % (2 ^ 64:Nat)).toNat=65535:=by decide
  rw[e,nat_mask16]
  omega
 rw[h0,h]
 rw[YS _ ae]
 omega
theorem YU (x:Int):bits .and .u32 x 65535=x % 65536:=by
 have h0:bits .and .u32 x 65535=IntKind.u32.wrap ((BitVec.ofInt 32 x &&& BitVec.ofInt 32 65535).toNat:Int):=rfl
 have h:((BitVec.ofInt 32 x) &&& (BitVec.ofInt 32 65535)).toNat=(x % 65536).toNat:=by
  rw[BitVec.toNat_and,BitVec.toNat_ofInt,BitVec.toNat_ofInt]
  have e:((65535:Int) % (2 ^ 32:Nat)).toNat=65535:=by decide
  rw[e,nat_mask16]
  omega
 rw[h0,h]
 rw[IntKind.wrap_u32]
 omega
attribute [go_sem] YT YU
def Ext (w w':World):Prop:=Below w.heap.size w w'
theorem Ext.refl (w:World):Ext w w:=Below.refl _ _
theorem Ext.drewN (w:World) (n:Nat):Ext w (w.drewN n):=⟨rfl,rfl,rfl,Nat.le_refl _,fun _ _=>rfl⟩
theorem Ext.size {a w:World} (h:Ext a w):a.heap.size≤w.heap.size:=Below.size h
theorem O9 {k:IntKind} {a b:Int} (h:a=b):Ending.returned (.int k a)=.returned (.int k b):=by rw[h]
theorem Iu (w:World) (need old:Nat) (e:TypeId):need≤grownCap w need old e:=by
 unfold grownCap Question.cut
 simp only
 omega
def Jb (n:Nat):Nat:=if n=0 then 0 else (n - 1) % 65535 + 1
theorem YV (n:Nat) (h:n≤65535):Jb n=n:=by unfold Jb;split<;>omega
theorem YW (n:Nat) (h:65535 < n):Jb (n % 65536 + n / 65536)=Jb n:=by
 unfold Jb;rw[if_neg ae,if_neg ae];omega
theorem zf (n:Nat):Jb n≤65535:=by unfold Jb;split<;>omega
def Qg (v:Int) (k:Nat):UInt8:=UInt8.ofNat (IntKind.u8.wrap (v.fdiv (2 ^ min (8 * (k:Int)).toNat 64))).toNat
def be (v:Int):Nat→List UInt8
 | 0=>[]
 | k + 1=>Qg v k::be v k
theorem Qp (v:Int):∀ n,(be v n).length=n
 | 0=>rfl
 | n + 1=>by simp[be,Qp v n]
theorem YX (a b:Nat) (h:a < 256):(b * 256) ||| a=b * 256 + a:=by
 have:b * 256=b <<< 8:=by rw[Nat.shiftLeft_eq]
 rw[this,Nat.shiftLeft_add_eq_or_of_lt (show a < 2 ^ 8 from h)]
theorem Iv (v c:Int) (c0:0≤c) (c1:c < 256):bits .or .i64 (IntKind.i64.wrap (v * 256)) c=IntKind.i64.wrap (256 * v + c):=by
 obtain ⟨n,rfl⟩:=Int.eq_ofNat_of_zero_le c0
 have hn:n < 256:=by omega
 show IntKind.i64.wrap (((BitVec.ofInt 64 (IntKind.i64.wrap (v * 256))) ||| (BitVec.ofInt 64 (n:Int))).toNat:Int)=_
 rw[BitVec.toNat_or,BitVec.toNat_ofInt,BitVec.toNat_ofInt]
 have e1:((n:Int) % ((2 ^ 64:Nat):Int)).toNat=n:=by omega
 have e2:(IntKind.i64.wrap (v * 256) % ((2 ^ 64:Nat):Int)).toNat=(v % 72057594037927936).toNat * 256:=by
  rw[IntKind.wrap_i64];omega
 rw[e1,e2,YX _ _ hn,IntKind.wrap_i64,IntKind.wrap_i64]
 omega
def sY:Int→List UInt8→Int
 | v,[]=>v
 | v,c::l=>sY (IntKind.i64.wrap (256 * v + c.toNat)) l
def cp (l:List UInt8):Int:=sY 0 l
theorem YY (l:List UInt8) (c:UInt8):∀ v,sY v (l++[c])=IntKind.i64.wrap (256 * sY v l + c.toNat):=by
 induction l with
 | nil=>intro v;rfl
 | cons a l ih=>intro v;simp only[List.cons_append,sY];exact ih _
theorem Pa (l:List UInt8) (k:Nat) (h:k < l.length):cp (l.take (k + 1))=IntKind.i64.wrap (256 * cp (l.take k) + (l.getD k 0).toNat):=by
 have e:l.take (k + 1)=l.take k++[l.getD k 0]:=by
  rw[List.take_add_one,List.getElem?_eq_getElem h];simp[List.getD,h]
 rw[e];exact YY _ _ _
def iK:Nat→List UInt8→Nat
 | v,[]=>v
 | v,c::l=>iK (256 * v + c.toNat) l
theorem YZ (l:List UInt8):∀ v,iK v l < (v + 1) * 256 ^ l.length:=by
 induction l with
 | nil=>intro v;simp[iK]
 | cons c l ih =>
  intro v
  refine Nat.lt_of_lt_of_le (ih _) ?_
  rw[List.length_cons,Nat.pow_succ,Nat.mul_comm (256 ^ l.length) 256,← Nat.mul_assoc]
  refine Nat.mul_le_mul_right _ ?_
  have:=UInt8.toNat_lt c
  omega
theorem Y0 (l:List UInt8):∀ (v:Nat),(v + 1) * 256 ^ l.length≤9223372036854775808→sY v l=iK v l:=by
 induction l with
 | nil=>intro v _;rfl
 | cons c l ih =>
  intro v h
  have h2:(256 * v + c.toNat + 1) * 256 ^ l.length≤(v + 1) * 256 ^ (c::l).length:=by
   rw[List.length_cons,Nat.pow_succ,Nat.mul_comm (256 ^ l.length) 256,← Nat.mul_assoc]
   refine Nat.mul_le_mul_right _ ?_
   have:=UInt8.toNat_lt c
   omega
  have h3:=Nat.pos_of_ne_zero (n:=256 ^ l.length) (by have:0 < 256 ^ l.length:=Nat.pow_pos aI;omega)
  have h4:256 * v + c.toNat < 9223372036854775808:=by
   have:256 * v + c.toNat + 1≤(256 * v + c.toNat + 1) * 256 ^ l.length:=Nat.le_mul_of_pos_right _ h3
   omega
  show sY (IntKind.i64.wrap (256 * v + c.toNat)) l=iK (256 * v + c.toNat) l
  have e:IntKind.i64.wrap (256 * (v:Int) + (c.toNat:Int))=((256 * v + c.toNat:Nat):Int):=by rw[IntKind.wrap_i64];omega
  rw[e]
  exact ih _ (Nat.le_trans h2 h)
theorem sZ (l:List UInt8) (h:l.length≤7):cp l=iK 0 l:=by
 refine Y0 l 0 ?_
 have:256 ^ l.length≤256 ^ 7:=Nat.pow_le_pow_right aI h
 omega
theorem wL (v:Int) (k:Nat) (hk:k≤8):Qg v k=UInt8.ofNat ((v / 256 ^ k) % 256).toNat:=by
 unfold Qg
 rw[IntKind.wrap_u8]
 have e:min (8 * (k:Int)).toNat 64=8 * k:=by omega
 rw[e,Int.fdiv_eq_ediv_of_nonneg _ (Int.pow_nonneg aI)]
 have e2:(2:Int) ^ (8 * k)=256 ^ k:=by rw[Int.pow_mul];rfl
 rw[e2]
theorem Pb (v k:Nat) (hk:k≤8):(Qg v k).toNat=v / 256 ^ k % 256:=by
 rw[wL _ _ hk]
 have e:((v:Int) / 256 ^ k % 256).toNat=v / 256 ^ k % 256:=by
  have:((v:Int) / 256 ^ k % 256)=((v / 256 ^ k % 256:Nat):Int):=by simp
  rw[this];exact Int.toNat_natCast _
 rw[e]
 simp only[UInt8.toNat_ofNat',Nat.reducePow]
 omega
theorem Iw (l:List UInt8) (n:Nat) (h:l.length=n) (h7:n≤7):0≤cp l∧cp l < ((256 ^ n:Nat):Int):=by
 subst h
 rw[sZ l h7]
 have:=YZ l 0
 omega
theorem E6 (l:List UInt8) (h:l.length=4):0≤cp l∧cp l < 4294967296:=Iw l 4 h (by decide)
theorem E7 (l:List UInt8) (h:l.length=2):0≤cp l∧cp l < 65536:=Iw l 2 h (by decide)
theorem tc (l:List UInt8) (a b:Nat) (h:a + b≤l.length):((l.drop a).take b).length=b:=by rw[List.length_take,List.length_drop];omega
set_option maxHeartbeats 400000 in
theorem Ix (n:Int) (w:World) (h:0≤n∧n≤4294967295) :
  Calls Tryz.prog 78 #[.int .u32 n] w fun e w'=>e=.returned (.int .u32 (Jb n.toNat))∧w'=w:=by
 go_enter Tryz.func78,Tryz.ntmps78
 go_wp2
 go_loop [0] (fun v=>∃ k:Nat,k≤4294967295∧v=.int .u32 k∧Jb k=Jb n.toNat) (fun v=>(intOf v).toNat)
 case atStart=>exact ⟨n.toNat,by omega,by rw[Int.toNat_of_nonneg h.1],rfl⟩
 case round =>
  obtain ⟨k,hk,rfl,hb⟩:=hrel
  have HB:=Lib.hid hb;clear hb
  by_cases hlt:65535 < k
  ·go_wp2
   go_round
   case rel=>exact ⟨k % 65536 + k / 65536,by omega,by go_num,by rw[YW k hlt,HB.out]⟩
   case measure=>simp[intOf];omega
  ·go_wp2
   go_ret
   exact ⟨by rw[← HB.out,YV k ae];rfl,rfl⟩
def pj (a b:Int):Nat:=Jb ((a % 65536).toNat + (b % 65536).toNat)
theorem Pc (a b:Int):pj a b≤65535:=zf _
set_option maxHeartbeats 400000 in
theorem Y1 (a b:Int) (w:World) :
  Calls Tryz.prog 178 #[.int .i64 a,.int .i64 b] w fun e w'=>e=.returned (.int .i64 (pj a b))∧w'=w:=by
 have hl:=zf (a % 65536 + b % 65536).toNat
 go_enter Tryz.func178,Tryz.ntmps178
 go_wp2_with (go_at_call 78;refine (Ix _ _ ae).mono ?_;rintro e w' ⟨rfl,rfl⟩)
 go_ret
 exact ⟨by unfold pj;rw[Int.toNat_add ae ae];rfl,rfl⟩
def Xh:List UInt8→Nat
 | []=>0
 | [a]=>a.toNat * 256
 | a::b::l=>a.toNat * 256 + b.toNat + Xh l
theorem Iy (a b:Nat):Jb (Jb a + b)=Jb (a + b):=by
 unfold Jb
 by_cases h:a=0
 ·simp[h]
 ·rw[if_neg h,if_neg ae,if_neg ae];omega
theorem Bz:∀ (l m:List UInt8),l.length % 2=0→Xh (l++m)=Xh l + Xh m
 | [],m,_=>by simp[Xh]
 | [a],m,h=>by simp at h
 | a::b::l,m,h=>by
  have:=Bz l m (by simp only[List.length_cons]at h;omega)
  simp only[List.cons_append,Xh,this];omega
def cq (l:List UInt8):Nat:=Jb (Xh l)
theorem E8 (l:List UInt8):cq l≤65535:=zf _
theorem Y2 (s:ByteArray) (k:Nat) (h:k + 1 < s.size):s.data.toList.take (k + 2)=s.data.toList.take k++[s[k],s[k + 1]]:=by
 rw[List.take_succ_eq_append_getElem (by simpa using h),List.take_succ_eq_append_getElem (by simp;omega)];simp;exact ⟨rfl,rfl⟩
theorem Y3 (s:ByteArray) (k:Nat) (hk:k % 2=0) (h:k + 1 < s.size) :
  cq (s.data.toList.take (k + 2))=Jb (cq (s.data.toList.take k) + s[k].toNat * 256 + s[k + 1].toNat):=by
 rw[Y2 s k h]
 have hl:(s.data.toList.take k).length % 2=0:=by rw[List.length_take];have:min k s.data.toList.length=k:=by simp;omega
                                                 omega
 unfold cq
 rw[Bz _ _ hl,Nat.add_assoc,Iy]
 simp[Xh]
theorem Y4 (s:ByteArray) (k:Nat) (hk:k % 2=0) (h:k + 1=s.size) :
  cq s.data.toList=Jb (cq (s.data.toList.take k) + (s[k]'ae).toNat * 256):=by
 have e:s.data.toList=s.data.toList.take k++[s[k]'ae]:=by
  conv=>lhs;rw[← List.take_length (l:=s.data.toList)]
  rw[show s.data.toList.length=k + 1 by simp;exact h.symm,List.take_succ_eq_append_getElem (by simp;omega)];simp;rfl
 have hl:(s.data.toList.take k).length % 2=0:=by rw[List.length_take];have:min k s.data.toList.length=k:=by simp;omega
                                                 omega
 conv=>lhs;rw[e]
 unfold cq
 rw[Bz _ _ hl,Iy]
 simp[Xh]
set_option maxHeartbeats 1000000 in
theorem Pd (s:ByteArray) (w:World) (hs:s.size≤maxLen) :
  Calls Tryz.prog 38 #[.string s] w fun e w'=>e=.returned (.int .i64 (cq s.data.toList))∧∃ n,w'=w.drewN n:=by
 unfold maxLen at hs
 go_enter Tryz.func38,Tryz.ntmps38
 go_wp2
 go_loopw [3,4] (fun v i wr=>∃ k:Nat,k≤s.size∧k % 2=0∧i=.int .i64 k∧v=.int .u32 (cq (s.data.toList.take k))∧∃ n,wr=w.drewN n) (fun _ i _=>s.size - (intOf i).toNat)
 case atStart=>exact ⟨0,Nat.zero_le _,rfl,rfl,rfl,0,rfl⟩
 case round =>
  obtain ⟨k,hk,hk2,rfl,rfl,n,hn⟩:=hrel
  have HW:=Lib.hid hn;clear hn
  have hl:=E8 (s.data.toList.take k)
  have HK:=Lib.hid hk2;clear hk2
  by_cases hlt:k + 1 < s.size
  ·have h2:=Y3 s k HK.out hlt
   have HS:=Lib.hid h2;clear h2
   have b1:=s[k].toNat_lt
   have b2:=s[k+1].toNat_lt
   have i1:(k:Int) < s.size:=by omega
   have i2:(k:Int) + 1 < s.size:=by omega
   have i3:k < s.size:=by omega
   have i4:(0:Int)≤k:=by omega
   have i5:(0:Int)≤k + 1:=by omega
   go_wp2
   go_quiet ((go_at_call 78;exact Calls.quiet_of_same (Ix _ _ ae)))
   go_wp2
   go_roundw
   case rel=>exact ⟨k + 2,by omega,by have:=HK.out;omega,by go_num,by rw[HS.out];exact congrArg _ (congrArg _ (congrArg _ ae)),n + nq,by rw[HW.out,World.drewN_drewN]⟩
   case measure=>simp[intOf];omega
  ·by_cases hodd:s.size % 2=1
   ·have h1:=Y4 s k HK.out (by have:=HK.out;omega)
    have HS:=Lib.hid h1;clear h1
    obtain rfl:k=s.size - 1:=by have:=HK.out;omega
    have b1:=(s[s.size - 1]'ae).toNat_lt
    have hb:((s.size:Int) % 2 == 1)=true:=by simp;omega
    have i1:(s.size:Int) - 1 < s.size:=by omega
    have i2:(0:Int)≤(s.size:Int) - 1:=by omega
    have hl2:=zf (cq (s.data.toList.take (s.size - 1)) + (s[s.size - 1]'ae).toNat * 256)
    go_wp2_with (go_at_call 78;refine (Ix _ _ ae).mono ?_;rintro e w' ⟨rfl,rfl⟩)
    go_ret
    exact ⟨O9 (by rw[HS.out]),n,HW.out⟩
   ·have e1:k=s.size:=by have:=HK.out;omega
    have hb:((s.size:Int) % 2 == 1)=false:=by simp;omega
    rw[e1]at hl
    go_wp2
    go_ret
    exact ⟨by rw[e1,List.take_of_length_le au];rfl,n,HW.out⟩
theorem Y5 (s:ByteArray) (w:World) (hs:s.size≤140737488351232) :
  Calls Tryz.prog 38 #[.string s] w fun e w'=>e=.returned (.int .i64 (cq s.data.toList))∧Ext w w' :=
 (Pd s w (by unfold maxLen;omega)).mono fun _ _ ⟨he,n,hn⟩=>⟨he,by rw[hn];exact Ext.drewN w n⟩
def Zb (l:List UInt8):Nat:=65535 - cq l
theorem Y6 (l:List UInt8):(65535:Int) - (cq l:Int)=(Zb l:Int):=by have:=E8 l;unfold Zb;omega
theorem wM (l:List UInt8):Zb l≤65535:=by unfold Zb;omega
set_option maxHeartbeats 400000 in
theorem Y7 (s:ByteArray) (w:World) (hs:s.size≤281474976710656) :
  Calls Tryz.prog 120 #[.string s] w fun e w'=>e=.returned (.int .i64 (Zb s.data.toList))∧∃ n,w'=w.drewN n:=by
 have hl:=E8 s.data.toList
 have hE:=Lib.hid (Y6 s.data.toList)
 go_enter Tryz.func120,Tryz.ntmps120
 go_wp2_with (go_at_call 38;refine (Pd _ _ (by unfold maxLen;omega)).mono ?_;rintro e w' ⟨rfl,n,rfl⟩)
 go_ret
 exact ⟨O9 hE.out,_,rfl⟩
set_option maxHeartbeats 400000 in
theorem Y8 (c m n:Int) (w:World) :
  Calls Tryz.prog 166 #[.int .i64 c,.int .i64 m,.int .i64 n] w fun e w'=>e=.returned (.int .i64 (65535 - pj (pj (65535 - c % 65536) (65535 - m % 65536)) n))∧w'=w:=by
 have hl:=Pc (pj (65535 - c % 65536) (65535 - m % 65536)) n
 go_enter Tryz.func166,Tryz.ntmps166
 go_wp2_with (go_at_call 178;refine (Y1 _ _ _).mono ?_;rintro e w' ⟨rfl,rfl⟩)
 go_ret
 exact ⟨rfl,rfl⟩
end Go.Proofs.YtogckmommodmhaaGreatDoor
