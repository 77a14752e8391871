import Derived.WalkSpells
import Derived.WalkLawsBesides
import Derived.BigQuiet
import Derived.Lib.Hide
import Derived.Test.YtogckmommodmhaaGreatDoorRows
namespace Go.Proofs.YtogckmommodmhaaGreatDoor
open List (cons_append length_cons length_take)
open Go.RowKit
set_option linter.all false
set_option maxHeartbeats 1000000
set_option maxRecDepth 100000
def aa {c:Prop} {h:Decidable c} (n:¬c) {α} {t e:α}:ite c t e=e:=if_neg n
def am {c:Prop} {h:Decidable c} (n:c) {α} {t e:α}:ite c t e=t:=if_pos n
def ap {p:Prop} [Decidable p] (h:decide p=true):p:=of_decide_eq_true h
variable (l:List UInt8)(s:ByteArray)(x:Int)(n:Nat)(w:World)(k:Nat)
def af {p:Prop}(h:p:=by omega):p:=h
def aw {p:Prop}(h:p:=by simp):p:=h
def aJ {p:Prop}(h:p:=by decide):p:=h
def Qwv (h:n<9223372036854775808):IntKind.i64.wrap (n:Int)=n:=by rw[IntKind.wrap_i64];omega
def Xou:bits .and .i64 x 65535=x%65536:=by
 have h0:bits .and .i64 x 65535=IntKind.i64.wrap ((BitVec.ofInt 64 x &&& BitVec.ofInt 64 65535).toNat:Int):=rfl;have h:((BitVec.ofInt 64 x) &&& (BitVec.ofInt 64 65535)).toNat=(x%65536).toNat:=by
  rw[BitVec.toNat_and,BitVec.toNat_ofInt,BitVec.toNat_ofInt];have e:((65535:Int)%(2 ^ 64:Nat)).toNat=65535:=by decide
  rw[e,nat_mask16];omega
 rw[h0,h];rw[Qwv _ af];omega
def Xnn:bits .and .u32 x 65535=x%65536:=by
 have h0:bits .and .u32 x 65535=IntKind.u32.wrap ((BitVec.ofInt 32 x &&& BitVec.ofInt 32 65535).toNat:Int):=rfl;have h:((BitVec.ofInt 32 x) &&& (BitVec.ofInt 32 65535)).toNat=(x%65536).toNat:=by
  rw[BitVec.toNat_and,BitVec.toNat_ofInt,BitVec.toNat_ofInt];have e:((65535:Int)%(2 ^ 32:Nat)).toNat=65535:=by decide
  rw[e,nat_mask16];omega
 rw[h0,h];rw[IntKind.wrap_u32];omega
attribute [go_sem] Xou Xnn
def Ext (w w':World):Prop:=Below w.heap.size w w'
def Ext.refl:Ext w w:=Below.refl _ _
def Ext.trans {a b c:World}(h:Ext a b)(k:Ext b c):Ext a c:=Below.trans h (Below.mono k h.size)
def Ext.drewN (n:Nat):Ext w (w.drewN n):=⟨rfl,rfl,rfl,Nat.le_refl _,fun _ _=>rfl⟩
def Ext.drew:Ext w w.drew:=⟨rfl,rfl,rfl,Nat.le_refl _,fun _ _=>rfl⟩
def Ext.alloc (o:Obj):Ext w (w.alloc o):=(Below.refl _ _).alloc (Nat.le_refl _) _
def Ext.alloc' {a w:World}(h:Ext a w)(o:Obj):Ext a (w.alloc o):=h.trans (Ext.alloc w o)
def Ext.size {a w:World}(h:Ext a w):a.heap.size<=w.heap.size:=Below.size h
def Dr {k:IntKind}{a b:Int}(h:a=b):Ending.returned (.int k a)=.returned (.int k b):=by rw[h]
def Qxi {P:Program}{w w1:World}{ops:Array Oper}{rest:List Oper}{o:Oper}{a:Act}{Q:Exit->Act->World->Prop}(v:Value)
  (hg:o.guard=none) (hrun:(execOp a.eval o).run P w=.ok (.value v) w1) (h:wpList P ops Q rest (a.put o.dst v) w1):wpList P ops Q (o::rest) a w:=by
 refine wpList_plain hg fun K hK=>?_;unfold Oper.wp;rw[hrun];exact hK _ _ h
def Hy (need old:Nat)(e:TypeId):need<=grownCap w need old e:=by
 unfold grownCap Question.cut;simp only;omega
def Xam (cap i:Nat)(h:i<s.size):(bytesRow s cap)[i]?=some (.int .u8 s[i].toNat):=by
 unfold bytesRow;rw[Array.getElem?_append_left (by simpa using h)];simp[h];rfl
def Qw6 {P:Program}{w:World}{ops:Array Oper}{rest:List Oper}{o:Oper}{a:Act}{Q:Exit->Act->World->Prop}(s:ByteArray)
  (hg:o.guard=none) (src dst e:TypeId) (x:Operand) (hop:o.op=.convert src dst x) (hx:a.eval x=.string s)
  (hs:P.underlying src=some .string) (hd:P.underlying dst=some (.slice e)) (he:P.underlying e=some (.int .u8))
  (h:∀ cap w1,s.size≤cap→w1.heap.size=w.heap.size + 1→Ext w w1→(∀ i (hi:i < s.size),w1.cell? ⟨w.heap.size,i,none⟩=some (.int .u8 s[i].toNat)) →
   wpList P ops Q rest (a.put o.dst (.slice (some ⟨w.heap.size,0,none⟩) s.size cap)) w1):wpList P ops Q (o::rest) a w:=by
 have hrun:=run_bytes_of_string (P:=P) w src dst e s hs hd he
 refine Qxi (w1:=w.drew.alloc (.cells (bytesRow s (grownCap w s.size 0 e)) e ((bytesRow s (grownCap w s.size 0 e)).size,(bytesRow s (grownCap w s.size 0 e)).size + 1))) _ hg ?_
  (h (grownCap w s.size 0 e) _ (Hy _ _ _ _) aw ((Ext.drew w).alloc' _) fun i hi=>?_)
 ·simp only[execOp,hop,hx,hrun,Sem.run_bind,Result.andThen_ok,Sem.run_pure]
 ·rw[<- Xam s (grownCap w s.size 0 e) i hi];exact cell_of_row _ _ _ _ _ _ (heap_alloc_new w.drew _)
def Kl (n:Nat):Nat:=if n=0 then 0 else (n-1)%65535+1
def Xcj (h:n<=65535):Kl n=n:=by unfold Kl;split<;>omega
def Xiw (h:65535<n):Kl (n%65536+n/65536)=Kl n:=by
 unfold Kl;rw[aa af,aa af];omega
def Bq:Kl n<=65535:=by unfold Kl;split<;>omega
def Qx (v:Int)(k:Nat):UInt8:=UInt8.ofNat (IntKind.u8.wrap (v.fdiv (2 ^ min (8*(k:Int)).toNat 64))).toNat
def be (v:Int):Nat->List UInt8
 | 0=>[]
 | k+1=>Qx v k::be v k
def Qj (v:Int):∀ n,(be v n).length=n
 | 0=>rfl
 | n+1=>by simp[be,Qj v n]
def Ycf (a b:Nat)(h:a<256):(b*256) ||| a=b*256+a:=by
 have:b*256=b <<< 8:=by rw[Nat.shiftLeft_eq]
 rw[this,Nat.shiftLeft_add_eq_or_of_lt (show a<2 ^ 8 from h)]
def Tx (v c:Int)(c0:0<=c)(c1:c<256):bits .or .i64 (IntKind.i64.wrap (v*256)) c=IntKind.i64.wrap (256*v+c):=by
 obtain ⟨n,rfl⟩:=Int.eq_ofNat_of_zero_le c0;have hn:n<256:=by omega
 show IntKind.i64.wrap (((BitVec.ofInt 64 (IntKind.i64.wrap (v*256))) ||| (BitVec.ofInt 64 (n:Int))).toNat:Int)=_;rw[BitVec.toNat_or,BitVec.toNat_ofInt,BitVec.toNat_ofInt];have e1:((n:Int)%((2 ^ 64:Nat):Int)).toNat=n:=by omega
 have e2:(IntKind.i64.wrap (v*256)%((2 ^ 64:Nat):Int)).toNat=(v%72057594037927936).toNat*256:=by
  rw[IntKind.wrap_i64];omega
 rw[e1,e2,Ycf _ _ hn,IntKind.wrap_i64,IntKind.wrap_i64];omega
def yv:Int->List UInt8->Int
 | v,[]=>v
 | v,c::l=>yv (IntKind.i64.wrap (256*v+c.toNat)) l
def iO (l:List UInt8):Int:=yv 0 l
def Xw4 (c:UInt8):∀ v,yv v (l++[c])=IntKind.i64.wrap (256*yv v l+c.toNat):=by
 induction l with
 | nil=>intro v;rfl
 | cons a l ih=>intro v;simp only[cons_append,yv];exact ih _
def Ty (h:k<l.length):iO (l.take (k+1))=IntKind.i64.wrap (256*iO (l.take k)+(l.getD k 0).toNat):=by
 have e:l.take (k+1)=l.take k++[l.getD k 0]:=by
  rw[List.take_add_one,List.getElem?_eq_getElem h];simp[List.getD,h]
 rw[e];exact Xw4 _ _ _
def oQ:Nat->List UInt8->Nat
 | v,[]=>v
 | v,c::l=>oQ (256*v+c.toNat) l
def Ygg:∀ v,oQ v l<(v+1)*256 ^ l.length:=by
 induction l with
 | nil=>intro v;simp[oQ]
 | cons c l ih =>
  intro v;refine Nat.lt_of_lt_of_le (ih _) ?_;rw[length_cons,Nat.pow_succ,Nat.mul_comm (256 ^ l.length) 256,<- Nat.mul_assoc];refine Nat.mul_le_mul_right _ ?_;have:=UInt8.toNat_lt c;omega
def Ycp:∀ (v:Nat),(v+1)*256 ^ l.length<=9223372036854775808->yv v l=oQ v l:=by
 induction l with
 | nil=>intro v _;rfl
 | cons c l ih =>
  intro v h;have h2:(256*v+c.toNat+1)*256 ^ l.length<=(v+1)*256 ^ (c::l).length:=by
   rw[length_cons,Nat.pow_succ,Nat.mul_comm (256 ^ l.length) 256,<- Nat.mul_assoc];refine Nat.mul_le_mul_right _ ?_;have:=UInt8.toNat_lt c;omega
  have h3:=Nat.pos_of_ne_zero (n:=256 ^ l.length) (by have:0<256 ^ l.length:=Nat.pow_pos aJ;omega);have h4:256*v+c.toNat<9223372036854775808:=by
   have:256*v+c.toNat+1<=(256*v+c.toNat+1)*256 ^ l.length:=Nat.le_mul_of_pos_right _ h3;omega
  show yv (IntKind.i64.wrap (256*v+c.toNat)) l=oQ (256*v+c.toNat) l;have e:IntKind.i64.wrap (256*(v:Int)+(c.toNat:Int))=((256*v+c.toNat:Nat):Int):=by rw[IntKind.wrap_i64];omega
  rw[e];exact ih _ (Nat.le_trans h2 h)
def uH (h:l.length<=7):iO l=oQ 0 l:=by
 refine Ycp l 0 ?_;have:256 ^ l.length<=256 ^ 7:=Nat.pow_le_pow_right aJ h;omega
def Br (v:Int)(k:Nat)(hk:k<=8):Qx v k=UInt8.ofNat ((v/256 ^ k)%256).toNat:=by
 unfold Qx;rw[IntKind.wrap_u8];have e:min (8*(k:Int)).toNat 64=8*k:=by omega
 rw[e,Int.fdiv_eq_ediv_of_nonneg _ (Int.pow_nonneg aJ)];have e2:(2:Int) ^ (8*k)=256 ^ k:=by rw[Int.pow_mul];rfl
 rw[e2]
def Tz (h:l.length=n)(h7:n<=7):0<=iO l/\iO l<((256 ^ n:Nat):Int):=by
 subst h;rw[uH l h7];have:=Ygg l 0;omega
def Ygw (h:l.length=4):0<=iO l/\iO l<4294967296:=Tz l 4 h (by decide)
def Ye7 (h:l.length=2):0<=iO l/\iO l<65536:=Tz l 2 h (by decide)
def TA (a b:Nat)(h:a+b<=l.length):((l.drop a).take b).length=b:=by rw[length_take,List.length_drop];omega
def Mj (n:Int)(w:World)(h:0<=n/\n<=4294967295) :
  Calls Tryz.prog 78 #[.int .u32 n] w fun e w'=>e=.returned (.int .u32 (Kl n.toNat))/\w'=w:=by
 go_enter Tryz.func78,Tryz.ntmps78
 go_wp2
 go_loop [0] (fun v=>∃ k:Nat,k<=4294967295/\v=.int .u32 k/\Kl k=Kl n.toNat) (fun v=>(intOf v).toNat)
 case atStart=>exact ⟨n.toNat,by omega,by rw[Int.toNat_of_nonneg h.1],rfl⟩
 case round =>
  obtain ⟨k,hk,rfl,hb⟩:=hrel;have HB:=Lib.hid hb;clear hb;by_cases hlt:65535<k
  ·go_wp2
   go_round
   case rel=>exact ⟨k%65536+k/65536,by omega,by go_num,by rw[Xiw k hlt,HB.out]⟩
   case measure=>simp[intOf];omega
  ·go_wp2
   go_ret
   exact ⟨by rw[<- HB.out,Xcj k af];rfl,rfl⟩
def qL (a b:Int):Nat:=Kl ((a%65536).toNat+(b%65536).toNat)
def TD (a b:Int):qL a b<=65535:=Bq _
def Yak (a b:Int)(w:World) :
  Calls Tryz.prog 178 #[.int .i64 a,.int .i64 b] w fun e w'=>e=.returned (.int .i64 (qL a b))/\w'=w:=by
 have hl:=Bq (a%65536+b%65536).toNat
 go_enter Tryz.func178,Tryz.ntmps178
 go_wp2_with (go_at_call 78;refine (Mj _ _ af).mono ?_;rintro e w' ⟨rfl,rfl⟩)
 go_ret
 exact ⟨by unfold qL;rw[Int.toNat_add af af];rfl,rfl⟩
def Yd:List UInt8->Nat
 | []=>0
 | [a]=>a.toNat*256
 | a::b::l=>a.toNat*256+b.toNat+Yd l
def Mk (a b:Nat):Kl (Kl a+b)=Kl (a+b):=by
 unfold Kl;by_cases h:a=0
 ·simp[h]
 ·rw[aa h,aa af,aa af];omega
def Ml:∀ (l m:List UInt8),l.length%2=0->Yd (l++m)=Yd l+Yd m
 | [],m,_=>by simp[Yd]
 | [a],m,h=>by simp at h
 | a::b::l,m,h=>by
  have:=Ml l m (by simp only[length_cons]at h;omega);simp only[cons_append,Yd,this];omega
def dD (l:List UInt8):Nat:=Kl (Yd l)
def Ds:dD l<=65535:=Bq _
def Xzb (h:k+1<s.size):s.data.toList.take (k+2)=s.data.toList.take k++[s[k],s[k+1]]:=by
 rw[List.take_succ_eq_append_getElem (by simpa using h),List.take_succ_eq_append_getElem (by simp;omega)];simp;exact ⟨rfl,rfl⟩
def Yae (hk:k%2=0)(h:k+1<s.size) :
  dD (s.data.toList.take (k+2))=Kl (dD (s.data.toList.take k)+s[k].toNat*256+s[k+1].toNat):=by
 rw[Xzb s k h]
 have hl:(s.data.toList.take k).length % 2=0:=by rw[length_take];have:min k s.data.toList.length=k:=by simp;omega
                                                 omega
 unfold dD;rw[Ml _ _ hl,Nat.add_assoc,Mk];simp[Yd]
def Ye4 (hk:k%2=0)(h:k+1=s.size) :
  dD s.data.toList=Kl (dD (s.data.toList.take k)+(s[k]'af).toNat*256):=by
 have e:s.data.toList=s.data.toList.take k++[s[k]'af]:=by
  conv=>lhs;rw[<- List.take_length (l:=s.data.toList)]
  rw[show s.data.toList.length=k+1 by simp;exact h.symm,List.take_succ_eq_append_getElem (by simp;omega)];simp;rfl
 have hl:(s.data.toList.take k).length % 2=0:=by rw[length_take];have:min k s.data.toList.length=k:=by simp;omega
                                                 omega
 conv=>lhs;rw[e]
 unfold dD;rw[Ml _ _ hl,Mk];simp[Yd]
def TF (hs:s.size<=maxLen) :
  Calls Tryz.prog 38 #[.string s] w fun e w'=>e=.returned (.int .i64 (dD s.data.toList))/\∃ n,w'=w.drewN n:=by
 unfold maxLen at hs
 go_enter Tryz.func38,Tryz.ntmps38
 go_wp2
 go_loopw [3,4] (fun v i wr=>∃ k:Nat,k<=s.size/\k%2=0/\i=.int .i64 k/\v=.int .u32 (dD (s.data.toList.take k))/\∃ n,wr=w.drewN n) (fun _ i _=>s.size-(intOf i).toNat)
 case atStart=>exact ⟨0,Nat.zero_le _,rfl,rfl,rfl,0,rfl⟩
 case round =>
  obtain ⟨k,hk,hk2,rfl,rfl,n,hn⟩:=hrel;have HW:=Lib.hid hn;clear hn;have hl:=Ds (s.data.toList.take k);have HK:=Lib.hid hk2;clear hk2;by_cases hlt:k+1<s.size
  ·have h2:=Yae s k HK.out hlt;have HS:=Lib.hid h2;clear h2;have b1:=s[k].toNat_lt;have b2:=s[k+1].toNat_lt;have i1:(k:Int) < s.size:=by omega
   have i2:(k:Int)+1<s.size:=by omega
   have i3:k<s.size:=by omega
   have i4:(0:Int)<=k:=by omega
   have i5:(0:Int)<=k+1:=by omega
   go_wp2
   go_quiet ((go_at_call 78;exact Calls.quiet_of_same (Mj _ _ af)))
   go_wp2
   go_roundw
   case rel=>exact ⟨k+2,by omega,by have:=HK.out;omega,by go_num,by rw[HS.out];exact congrArg _ (congrArg _ (congrArg _ af)),n+nq,by rw[HW.out,World.drewN_drewN]⟩
   case measure=>simp[intOf];omega
  ·by_cases hodd:s.size % 2=1
   ·have h1:=Ye4 s k HK.out (by have:=HK.out;omega);have HS:=Lib.hid h1;clear h1;obtain rfl:k=s.size - 1:=by have:=HK.out;omega
    have b1:=(s[s.size-1]'af).toNat_lt;have hb:((s.size:Int)%2==1)=true:=by simp;omega
    have i1:(s.size:Int)-1<s.size:=by omega
    have i2:(0:Int)<=(s.size:Int)-1:=by omega
    have hl2:=Bq (dD (s.data.toList.take (s.size-1))+(s[s.size-1]'af).toNat*256)
    go_wp2_with (go_at_call 78;refine (Mj _ _ af).mono ?_;rintro e w' ⟨rfl,rfl⟩)
    go_ret
    exact ⟨Dr (by rw[HS.out]),n,HW.out⟩
   ·have e1:k=s.size:=by have:=HK.out;omega
    have hb:((s.size:Int)%2==1)=false:=by simp;omega
    rw[e1]at hl
    go_wp2
    go_ret
    exact ⟨by rw[e1,List.take_of_length_le aw];rfl,n,HW.out⟩
def lT:List UInt8->Nat->Nat
 | [],_=>0
 | a::l,i=>(if i%2=0 then a.toNat*256 else a.toNat)+lT l (i+1)
def TG:∀ (l:List UInt8) (i:Nat),lT l (i+2)=lT l i
 | [],_=>rfl
 | a::l,i=>by simp only[lT];rw[show i+2+1=i+1+2 by omega,TG l (i+1),show (i+2)%2=i%2 by omega]
def TH:∀ l:List UInt8,lT l 0=Yd l
 | []=>rfl
 | [a]=>by simp[lT,Yd]
 | a::b::l=>by simp[lT,Yd,TG l 0,TH l];omega
def TI:∀ (l:List UInt8) (a:UInt8) (i:Nat),lT (l++[a]) i=lT l i+(if (i+l.length)%2=0 then a.toNat*256 else a.toNat)
 | [],a,i=>by simp[lT]
 | b::l,a,i=>by simp only[cons_append,lT,TI l a (i+1),length_cons];rw[show i+1+l.length=i+(l.length+1) by omega];omega
def TJ:∀ (l:List UInt8) (i:Nat),lT l i<=65280*l.length
 | [],_=>by simp[lT]
 | a::l,i=>by have:=a.toNat_lt;have:=TJ l (i+1);simp only[lT,length_cons];split<;>omega
def Xw9 (h:k<s.size):s.data.toList.take (k+1)=s.data.toList.take k++[s[k]]:=by
 rw[List.take_succ_eq_append_getElem (by simpa using h)];rfl
def Xug (h:n<=9223372036854775807) :
  Calls Tryz.prog 168 #[.int .i64 n] w fun e w'=>e=.returned (.int .i64 (Kl n))/\w'=w:=by
 unfold Kl;by_cases h0:n=0
 ·subst h0
  go_enter Tryz.func168,Tryz.ntmps168
  go_wp2
  go_ret
  exact ⟨rfl,rfl⟩
 ·have hb:((n:Int) == 0)=false:=by simp;omega
  have h1:1<=n:=by omega
  go_enter Tryz.func168,Tryz.ntmps168
  go_wp2
  go_ret
  exact ⟨Dr af,rfl⟩
def TK (hs:s.size<=140737488351232) :
  Calls Tryz.prog 147 #[.string s] w fun e w'=>e=.returned (.int .i64 (dD s.data.toList))/\Ext w w':=by
 go_enter Tryz.func147,Tryz.ntmps147
 go_wp2_with (refine Qw6 s rfl _ _ _ _ rfl rfl Tryz.underlying9 Tryz.underlying152 Tryz.underlying5 ?_;intro cap w1 hcap hz hb hc)
 go_loop [3,10] (fun v i=>∃ k:Nat,k<=s.size/\i=.int .i64 k/\v=.int .i64 (lT (s.data.toList.take k) 0)) (fun _ i=>s.size-(intOf i).toNat)
 case atStart=>exact ⟨0,Nat.zero_le _,rfl,rfl⟩
 case round =>
  obtain ⟨k,hk,rfl,rfl⟩:=hrel;have hl:=TJ (s.data.toList.take k) 0;have hl2:(s.data.toList.take k).length=k:=by simp;omega
  have hl3:lT (s.data.toList.take k) 0<=65280*k:=by rw[hl2]at hl;exact hl
  clear hl;by_cases hlt:k<s.size
  ·have hsn:=TI (s.data.toList.take k) s[k] 0;rw[← Xw9 s k hlt,hl2,Nat.zero_add]at hsn;have HS:=Lib.hid hsn;have b1:=s[k].toNat_lt;have hck:=hc k hlt;have i1:(k:Int) < s.size:=by omega
   clear hsn hl2;by_cases h2:k%2=0
   ·have hb2:((k:Int) % 2 == 0)=true:=by simp;omega
    go_wp2
    go_round
    case rel=>exact ⟨k+1,by omega,by go_num,by rw[HS.out,am h2];go_num⟩
    case measure=>simp[intOf];omega
   ·have hb2:((k:Int) % 2 == 0)=false:=by simp;omega
    go_wp2
    go_round
    case rel=>exact ⟨k+1,by omega,by go_num,by rw[HS.out,aa h2];go_num⟩
    case measure=>simp[intOf];omega
  ·clear hl2;have e1:lT (s.data.toList.take k) 0=Yd s.data.toList:=by rw[List.take_of_length_le (by simp;omega),TH]
   have E:=Lib.hid e1;clear e1;have hbl:=hb
   go_wp2_with (go_at_call 168;refine (Xug _ _ af).mono ?_;rintro e w' ⟨rfl,rfl⟩)
   go_ret
   exact ⟨Dr (by rw[E.out];rfl),hbl⟩
def Xzd (hs:s.size<=140737488351232) :
  Calls Tryz.prog 38 #[.string s] w fun e w'=>e=.returned (.int .i64 (dD s.data.toList))/\Ext w w' :=
 (TF s w (by unfold maxLen;omega)).mono fun _ _ ⟨he,n,hn⟩=>⟨he,by rw[hn];exact Ext.drewN w n⟩
def Yh (l:List UInt8):Nat:=65535-dD l
def TL:(65535:Int)-(dD l:Int)=(Yh l:Int):=by have:=Ds l;unfold Yh;omega
def yw:Yh l<=65535:=by unfold Yh;omega
def Xq2 (hs:s.size<=281474976710656) :
  Calls Tryz.prog 120 #[.string s] w fun e w'=>e=.returned (.int .i64 (Yh s.data.toList))/\∃ n,w'=w.drewN n:=by
 have hl:=Ds s.data.toList;have hE:=Lib.hid (TL s.data.toList)
 go_enter Tryz.func120,Tryz.ntmps120
 go_wp2_with (go_at_call 38;refine (TF _ _ (by unfold maxLen;omega)).mono ?_;rintro e w' ⟨rfl,n,rfl⟩)
 go_ret
 exact ⟨Dr hE.out,_,rfl⟩
def Xbw (hs:s.size<=140737488351232) :
  Calls Tryz.prog 145 #[.string s] w fun e w'=>e=.returned (.int .i64 (Yh s.data.toList))/\Ext w w':=by
 have hl:=Ds s.data.toList;have hE:=Lib.hid (TL s.data.toList)
 go_enter Tryz.func145,Tryz.ntmps145
 go_wp2_with (go_at_call 147;refine (TK _ _ hs).mono ?_;rintro e w' ⟨rfl,hb⟩)
 go_ret
 exact ⟨Dr hE.out,hb⟩
def Xhl (c m n:Int)(w:World) :
  Calls Tryz.prog 166 #[.int .i64 c,.int .i64 m,.int .i64 n] w fun e w'=>e=.returned (.int .i64 (65535-qL (qL (65535-c%65536) (65535-m%65536)) n))/\w'=w:=by
 have hl:=TD (qL (65535-c%65536) (65535-m%65536)) n
 go_enter Tryz.func166,Tryz.ntmps166
 go_wp2_with (go_at_call 178;refine (Yak _ _ _).mono ?_;rintro e w' ⟨rfl,rfl⟩)
 go_ret
 exact ⟨rfl,rfl⟩
end Go.Proofs.YtogckmommodmhaaGreatDoor
