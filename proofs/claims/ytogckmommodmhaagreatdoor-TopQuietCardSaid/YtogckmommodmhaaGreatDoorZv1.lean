import Derived.WalkKit
import Derived.WalkSpells
import Derived.WalkLawsBesides
import Derived.BigQuiet
import Derived.Lib.Hide
import Derived.Test.YtogckmommodmhaaGreatDoorRows
namespace Go.Proofs.YtogckmommodmhaaGreatDoor
open Go.RowKit
set_option linter.all false
set_option linter.unusedSimpArgs false
set_option maxRecDepth 100000
theorem af {p:Prop} (h:p:=by omega):p:=h
theorem av {p:Prop} (h:p:=by simp):p:=h
theorem aP {p:Prop} (h:p:=by decide):p:=h
theorem YO (n:Nat) (h:n < 9223372036854775808):IntKind.i64.wrap (n:Int)=n:=by rw[IntKind.wrap_i64];omega
theorem YP (x:Int):bits .and .i64 x 65535=x % 65536:=by
 have h0:bits .and .i64 x 65535=IntKind.i64.wrap ((BitVec.ofInt 64 x &&& BitVec.ofInt 64 65535).toNat:Int):=rfl
 have h:((BitVec.ofInt 64 x) &&& (BitVec.ofInt 64 65535)).toNat=(x % 65536).toNat:=by
  rw[BitVec.toNat_and,BitVec.toNat_ofInt,BitVec.toNat_ofInt]
  have e:((65535:Int) % (2 ^ 64:Nat)).toNat=65535:=by decide
  rw[e,nat_mask16]
  omega
 rw[h0,h]
 rw[YO _ af]
 omega
theorem YQ (x:Int):bits .and .u32 x 65535=x % 65536:=by
 have h0:bits .and .u32 x 65535=IntKind.u32.wrap ((BitVec.ofInt 32 x &&& BitVec.ofInt 32 65535).toNat:Int):=rfl
 have h:((BitVec.ofInt 32 x) &&& (BitVec.ofInt 32 65535)).toNat=(x % 65536).toNat:=by
  rw[BitVec.toNat_and,BitVec.toNat_ofInt,BitVec.toNat_ofInt]
  have e:((65535:Int) % (2 ^ 32:Nat)).toNat=65535:=by decide
  rw[e,nat_mask16]
  omega
 rw[h0,h]
 rw[IntKind.wrap_u32]
 omega
attribute [go_sem] YP YQ
def Ext (w w':World):Prop:=Below w.heap.size w w'
theorem Ext.refl (w:World):Ext w w:=Below.refl _ _
theorem Ext.drewN (w:World) (n:Nat):Ext w (w.drewN n):=⟨rfl,rfl,rfl,Nat.le_refl _,fun _ _=>rfl⟩
theorem Ext.size {a w:World} (h:Ext a w):a.heap.size≤w.heap.size:=Below.size h
theorem O4 {k:IntKind} {a b:Int} (h:a=b):Ending.returned (.int k a)=.returned (.int k b):=by rw[h]
theorem Ig (w:World) (need old:Nat) (e:TypeId):need≤grownCap w need old e:=by
 unfold grownCap Question.cut
 simp only
 omega
def Jh (n:Nat):Nat:=if n=0 then 0 else (n - 1) % 65535 + 1
theorem YR (n:Nat) (h:n≤65535):Jh n=n:=by unfold Jh;split<;>omega
theorem YS (n:Nat) (h:65535 < n):Jh (n % 65536 + n / 65536)=Jh n:=by
 unfold Jh;rw[if_neg af,if_neg af];omega
theorem za (n:Nat):Jh n≤65535:=by unfold Jh;split<;>omega
def Qf (v:Int) (k:Nat):UInt8:=UInt8.ofNat (IntKind.u8.wrap (v.fdiv (2 ^ min (8 * (k:Int)).toNat 64))).toNat
def be (v:Int):Nat→List UInt8
 | 0=>[]
 | k + 1=>Qf v k::be v k
theorem Qi (v:Int):∀ n,(be v n).length=n
 | 0=>rfl
 | n + 1=>by simp[be,Qi v n]
theorem YT (a b:Nat) (h:a < 256):(b * 256) ||| a=b * 256 + a:=by
 have:b * 256=b <<< 8:=by rw[Nat.shiftLeft_eq]
 rw[this,Nat.shiftLeft_add_eq_or_of_lt (show a < 2 ^ 8 from h)]
theorem Ih (v c:Int) (c0:0≤c) (c1:c < 256):bits .or .i64 (IntKind.i64.wrap (v * 256)) c=IntKind.i64.wrap (256 * v + c):=by
 obtain ⟨n,rfl⟩:=Int.eq_ofNat_of_zero_le c0
 have hn:n < 256:=by omega
 show IntKind.i64.wrap (((BitVec.ofInt 64 (IntKind.i64.wrap (v * 256))) ||| (BitVec.ofInt 64 (n:Int))).toNat:Int)=_
 rw[BitVec.toNat_or,BitVec.toNat_ofInt,BitVec.toNat_ofInt]
 have e1:((n:Int) % ((2 ^ 64:Nat):Int)).toNat=n:=by omega
 have e2:(IntKind.i64.wrap (v * 256) % ((2 ^ 64:Nat):Int)).toNat=(v % 72057594037927936).toNat * 256:=by
  rw[IntKind.wrap_i64];omega
 rw[e1,e2,YT _ _ hn,IntKind.wrap_i64,IntKind.wrap_i64]
 omega
def tv:Int→List UInt8→Int
 | v,[]=>v
 | v,c::l=>tv (IntKind.i64.wrap (256 * v + c.toNat)) l
def cn (l:List UInt8):Int:=tv 0 l
theorem YU (l:List UInt8) (c:UInt8):∀ v,tv v (l++[c])=IntKind.i64.wrap (256 * tv v l + c.toNat):=by
 induction l with
 | nil=>intro v;rfl
 | cons a l ih=>intro v;simp only[List.cons_append,tv];exact ih _
theorem O5 (l:List UInt8) (k:Nat) (h:k < l.length):cn (l.take (k + 1))=IntKind.i64.wrap (256 * cn (l.take k) + (l.getD k 0).toNat):=by
 have e:l.take (k + 1)=l.take k++[l.getD k 0]:=by
  rw[List.take_add_one,List.getElem?_eq_getElem h];simp[List.getD,h]
 rw[e];exact YU _ _ _
def iE:Nat→List UInt8→Nat
 | v,[]=>v
 | v,c::l=>iE (256 * v + c.toNat) l
theorem YV (l:List UInt8):∀ v,iE v l < (v + 1) * 256 ^ l.length:=by
 induction l with
 | nil=>intro v;simp[iE]
 | cons c l ih =>
  intro v
  refine Nat.lt_of_lt_of_le (ih _) ?_
  rw[List.length_cons,Nat.pow_succ,Nat.mul_comm (256 ^ l.length) 256,← Nat.mul_assoc]
  refine Nat.mul_le_mul_right _ ?_
  have:=UInt8.toNat_lt c
  omega
theorem YW (l:List UInt8):∀ (v:Nat),(v + 1) * 256 ^ l.length≤9223372036854775808→tv v l=iE v l:=by
 induction l with
 | nil=>intro v _;rfl
 | cons c l ih =>
  intro v h
  have h2:(256 * v + c.toNat + 1) * 256 ^ l.length≤(v + 1) * 256 ^ (c::l).length:=by
   rw[List.length_cons,Nat.pow_succ,Nat.mul_comm (256 ^ l.length) 256,← Nat.mul_assoc]
   refine Nat.mul_le_mul_right _ ?_
   have:=UInt8.toNat_lt c
   omega
  have h3:=Nat.pos_of_ne_zero (n:=256 ^ l.length) (by have:0 < 256 ^ l.length:=Nat.pow_pos aP;omega)
  have h4:256 * v + c.toNat < 9223372036854775808:=by
   have:256 * v + c.toNat + 1≤(256 * v + c.toNat + 1) * 256 ^ l.length:=Nat.le_mul_of_pos_right _ h3
   omega
  show tv (IntKind.i64.wrap (256 * v + c.toNat)) l=iE (256 * v + c.toNat) l
  have e:IntKind.i64.wrap (256 * (v:Int) + (c.toNat:Int))=((256 * v + c.toNat:Nat):Int):=by rw[IntKind.wrap_i64];omega
  rw[e]
  exact ih _ (Nat.le_trans h2 h)
theorem tw (l:List UInt8) (h:l.length≤7):cn l=iE 0 l:=by
 refine YW l 0 ?_
 have:256 ^ l.length≤256 ^ 7:=Nat.pow_le_pow_right aP h
 omega
theorem wD (v:Int) (k:Nat) (hk:k≤8):Qf v k=UInt8.ofNat ((v / 256 ^ k) % 256).toNat:=by
 unfold Qf
 rw[IntKind.wrap_u8]
 have e:min (8 * (k:Int)).toNat 64=8 * k:=by omega
 rw[e,Int.fdiv_eq_ediv_of_nonneg _ (Int.pow_nonneg aP)]
 have e2:(2:Int) ^ (8 * k)=256 ^ k:=by rw[Int.pow_mul];rfl
 rw[e2]
theorem O6 (v k:Nat) (hk:k≤8):(Qf v k).toNat=v / 256 ^ k % 256:=by
 rw[wD _ _ hk]
 have e:((v:Int) / 256 ^ k % 256).toNat=v / 256 ^ k % 256:=by
  have:((v:Int) / 256 ^ k % 256)=((v / 256 ^ k % 256:Nat):Int):=by simp
  rw[this];exact Int.toNat_natCast _
 rw[e]
 simp only[UInt8.toNat_ofNat',Nat.reducePow]
 omega
theorem Ii (l:List UInt8) (n:Nat) (h:l.length=n) (h7:n≤7):0≤cn l∧cn l < ((256 ^ n:Nat):Int):=by
 subst h
 rw[tw l h7]
 have:=YV l 0
 omega
theorem EO (l:List UInt8) (h:l.length=4):0≤cn l∧cn l < 4294967296:=Ii l 4 h (by decide)
theorem EP (l:List UInt8) (h:l.length=2):0≤cn l∧cn l < 65536:=Ii l 2 h (by decide)
theorem tz (l:List UInt8) (a b:Nat) (h:a + b≤l.length):((l.drop a).take b).length=b:=by rw[List.length_take,List.length_drop];omega
set_option maxHeartbeats 400000 in
theorem Ij (n:Int) (w:World) (h:0≤n∧n≤4294967295) :
  Calls Tryz.prog 78 #[.int .u32 n] w fun e w'=>e=.returned (.int .u32 (Jh n.toNat))∧w'=w:=by
 go_enter Tryz.func78,Tryz.ntmps78
 go_wp2
 go_loop [0] (fun v=>∃ k:Nat,k≤4294967295∧v=.int .u32 k∧Jh k=Jh n.toNat) (fun v=>(intOf v).toNat)
 case atStart=>exact ⟨n.toNat,by omega,by rw[Int.toNat_of_nonneg h.1],rfl⟩
 case round =>
  obtain ⟨k,hk,rfl,hb⟩:=hrel
  have HB:=Lib.hid hb;clear hb
  by_cases hlt:65535 < k
  ·go_wp2
   go_round
   case rel=>exact ⟨k % 65536 + k / 65536,by omega,by go_num,by rw[YS k hlt,HB.out]⟩
   case measure=>simp[intOf];omega
  ·go_wp2
   go_ret
   exact ⟨by rw[← HB.out,YR k af];rfl,rfl⟩
def pq (a b:Int):Nat:=Jh ((a % 65536).toNat + (b % 65536).toNat)
theorem O7 (a b:Int):pq a b≤65535:=za _
set_option maxHeartbeats 400000 in
theorem YX (a b:Int) (w:World) :
  Calls Tryz.prog 178 #[.int .i64 a,.int .i64 b] w fun e w'=>e=.returned (.int .i64 (pq a b))∧w'=w:=by
 have hl:=za (a % 65536 + b % 65536).toNat
 go_enter Tryz.func178,Tryz.ntmps178
 go_wp2_with (go_at_call 78;refine (Ij _ _ af).mono ?_;rintro e w' ⟨rfl,rfl⟩)
 go_ret
 exact ⟨by unfold pq;rw[Int.toNat_add af af];rfl,rfl⟩
def Xp:List UInt8→Nat
 | []=>0
 | [a]=>a.toNat * 256
 | a::b::l=>a.toNat * 256 + b.toNat + Xp l
theorem Ik (a b:Nat):Jh (Jh a + b)=Jh (a + b):=by
 unfold Jh
 by_cases h:a=0
 ·simp[h]
 ·rw[if_neg h,if_neg af,if_neg af];omega
theorem Bn:∀ (l m:List UInt8),l.length % 2=0→Xp (l++m)=Xp l + Xp m
 | [],m,_=>by simp[Xp]
 | [a],m,h=>by simp at h
 | a::b::l,m,h=>by
  have:=Bn l m (by simp only[List.length_cons]at h;omega)
  simp only[List.cons_append,Xp,this];omega
def cp (l:List UInt8):Nat:=Jh (Xp l)
theorem ER (l:List UInt8):cp l≤65535:=za _
theorem YY (s:ByteArray) (k:Nat) (h:k + 1 < s.size):s.data.toList.take (k + 2)=s.data.toList.take k++[s[k],s[k + 1]]:=by
 rw[List.take_succ_eq_append_getElem (by simpa using h),List.take_succ_eq_append_getElem (by simp;omega)];simp;exact ⟨rfl,rfl⟩
theorem YZ (s:ByteArray) (k:Nat) (hk:k % 2=0) (h:k + 1 < s.size) :
  cp (s.data.toList.take (k + 2))=Jh (cp (s.data.toList.take k) + s[k].toNat * 256 + s[k + 1].toNat):=by
 rw[YY s k h]
 have hl:(s.data.toList.take k).length % 2=0:=by rw[List.length_take];have:min k s.data.toList.length=k:=by simp;omega
                                                 omega
 unfold cp
 rw[Bn _ _ hl,Nat.add_assoc,Ik]
 simp[Xp]
theorem Y0 (s:ByteArray) (k:Nat) (hk:k % 2=0) (h:k + 1=s.size) :
  cp s.data.toList=Jh (cp (s.data.toList.take k) + (s[k]'af).toNat * 256):=by
 have e:s.data.toList=s.data.toList.take k++[s[k]'af]:=by
  conv=>lhs;rw[← List.take_length (l:=s.data.toList)]
  rw[show s.data.toList.length=k + 1 by simp;exact h.symm,List.take_succ_eq_append_getElem (by simp;omega)];simp;rfl
 have hl:(s.data.toList.take k).length % 2=0:=by rw[List.length_take];have:min k s.data.toList.length=k:=by simp;omega
                                                 omega
 conv=>lhs;rw[e]
 unfold cp
 rw[Bn _ _ hl,Ik]
 simp[Xp]
set_option maxHeartbeats 1000000 in
theorem O8 (s:ByteArray) (w:World) (hs:s.size≤maxLen) :
  Calls Tryz.prog 38 #[.string s] w fun e w'=>e=.returned (.int .i64 (cp s.data.toList))∧∃ n,w'=w.drewN n:=by
 unfold maxLen at hs
 go_enter Tryz.func38,Tryz.ntmps38
 go_wp2
 go_loopw [3,4] (fun v i wr=>∃ k:Nat,k≤s.size∧k % 2=0∧i=.int .i64 k∧v=.int .u32 (cp (s.data.toList.take k))∧∃ n,wr=w.drewN n) (fun _ i _=>s.size - (intOf i).toNat)
 case atStart=>exact ⟨0,Nat.zero_le _,rfl,rfl,rfl,0,rfl⟩
 case round =>
  obtain ⟨k,hk,hk2,rfl,rfl,n,hn⟩:=hrel
  have HW:=Lib.hid hn;clear hn
  have hl:=ER (s.data.toList.take k)
  have HK:=Lib.hid hk2;clear hk2
  by_cases hlt:k + 1 < s.size
  ·have h2:=YZ s k HK.out hlt
   have HS:=Lib.hid h2;clear h2
   have b1:=s[k].toNat_lt
   have b2:=s[k+1].toNat_lt
   have i1:(k:Int) < s.size:=by omega
   have i2:(k:Int) + 1 < s.size:=by omega
   have i3:k < s.size:=by omega
   have i4:(0:Int)≤k:=by omega
   have i5:(0:Int)≤k + 1:=by omega
   go_wp2
   go_quiet ((go_at_call 78;exact Calls.quiet_of_same (Ij _ _ af)))
   go_wp2
   go_roundw
   case rel=>exact ⟨k + 2,by omega,by have:=HK.out;omega,by go_num,by rw[HS.out];exact congrArg _ (congrArg _ (congrArg _ af)),n + nq,by rw[HW.out,World.drewN_drewN]⟩
   case measure=>simp[intOf];omega
  ·by_cases hodd:s.size % 2=1
   ·have h1:=Y0 s k HK.out (by have:=HK.out;omega)
    have HS:=Lib.hid h1;clear h1
    obtain rfl:k=s.size - 1:=by have:=HK.out;omega
    have b1:=(s[s.size - 1]'af).toNat_lt
    have hb:((s.size:Int) % 2 == 1)=true:=by simp;omega
    have i1:(s.size:Int) - 1 < s.size:=by omega
    have i2:(0:Int)≤(s.size:Int) - 1:=by omega
    have hl2:=za (cp (s.data.toList.take (s.size - 1)) + (s[s.size - 1]'af).toNat * 256)
    go_wp2_with (go_at_call 78;refine (Ij _ _ af).mono ?_;rintro e w' ⟨rfl,rfl⟩)
    go_ret
    exact ⟨O4 (by rw[HS.out]),n,HW.out⟩
   ·have e1:k=s.size:=by have:=HK.out;omega
    have hb:((s.size:Int) % 2 == 1)=false:=by simp;omega
    rw[e1]at hl
    go_wp2
    go_ret
    exact ⟨by rw[e1,List.take_of_length_le av];rfl,n,HW.out⟩
theorem Y1 (s:ByteArray) (w:World) (hs:s.size≤140737488351232) :
  Calls Tryz.prog 38 #[.string s] w fun e w'=>e=.returned (.int .i64 (cp s.data.toList))∧Ext w w' :=
 (O8 s w (by unfold maxLen;omega)).mono fun _ _ ⟨he,n,hn⟩=>⟨he,by rw[hn];exact Ext.drewN w n⟩
def Zh (l:List UInt8):Nat:=65535 - cp l
theorem Y2 (l:List UInt8):(65535:Int) - (cp l:Int)=(Zh l:Int):=by have:=ER l;unfold Zh;omega
theorem wE (l:List UInt8):Zh l≤65535:=by unfold Zh;omega
set_option maxHeartbeats 400000 in
theorem Y3 (s:ByteArray) (w:World) (hs:s.size≤281474976710656) :
  Calls Tryz.prog 120 #[.string s] w fun e w'=>e=.returned (.int .i64 (Zh s.data.toList))∧∃ n,w'=w.drewN n:=by
 have hl:=ER s.data.toList
 have hE:=Lib.hid (Y2 s.data.toList)
 go_enter Tryz.func120,Tryz.ntmps120
 go_wp2_with (go_at_call 38;refine (O8 _ _ (by unfold maxLen;omega)).mono ?_;rintro e w' ⟨rfl,n,rfl⟩)
 go_ret
 exact ⟨O4 hE.out,_,rfl⟩
set_option maxHeartbeats 400000 in
theorem Y4 (c m n:Int) (w:World) :
  Calls Tryz.prog 166 #[.int .i64 c,.int .i64 m,.int .i64 n] w fun e w'=>e=.returned (.int .i64 (65535 - pq (pq (65535 - c % 65536) (65535 - m % 65536)) n))∧w'=w:=by
 have hl:=O7 (pq (65535 - c % 65536) (65535 - m % 65536)) n
 go_enter Tryz.func166,Tryz.ntmps166
 go_wp2_with (go_at_call 178;refine (YX _ _ _).mono ?_;rintro e w' ⟨rfl,rfl⟩)
 go_ret
 exact ⟨rfl,rfl⟩
end Go.Proofs.YtogckmommodmhaaGreatDoor
