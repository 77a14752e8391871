import Derived.WalkSpells
import Derived.WalkLawsBesides
import Derived.BigQuiet
import Derived.Lib.Hide
import Derived.Test.YtogckmommodmhaaGreatDoorRows
namespace Go.Proofs.YtogckmommodmhaaGreatDoor
open List (cons_append length_cons length_take)
open Go.RowKit
set_option linter.all false
set_option maxHeartbeats 1000000
set_option maxRecDepth 100000
def aa {c:Prop} {h:Decidable c} (n:¬c) {α} {t e:α}:ite c t e=e:=if_neg n
def am {c:Prop} {h:Decidable c} (n:c) {α} {t e:α}:ite c t e=t:=if_pos n
def ap {p:Prop} [Decidable p] (h:decide p=true):p:=of_decide_eq_true h
variable (l:List UInt8)(s:ByteArray)(x:Int)(n:Nat)(w:World)(k:Nat)
def af {p:Prop}(h:p:=by omega):p:=h
def av {p:Prop}(h:p:=by simp):p:=h
def aJ {p:Prop}(h:p:=by decide):p:=h
def Qxy (h:n<9223372036854775808):IntKind.i64.wrap (n:Int)=n:=by rw[IntKind.wrap_i64];omega
def Xn5:bits .and .i64 x 65535=x%65536:=by
 have h0:bits .and .i64 x 65535=IntKind.i64.wrap ((BitVec.ofInt 64 x &&& BitVec.ofInt 64 65535).toNat:Int):=rfl;have h:((BitVec.ofInt 64 x) &&& (BitVec.ofInt 64 65535)).toNat=(x%65536).toNat:=by
  rw[BitVec.toNat_and,BitVec.toNat_ofInt,BitVec.toNat_ofInt];have e:((65535:Int)%(2 ^ 64:Nat)).toNat=65535:=by decide
  rw[e,nat_mask16];omega
 rw[h0,h];rw[Qxy _ af];omega
def Xna:bits .and .u32 x 65535=x%65536:=by
 have h0:bits .and .u32 x 65535=IntKind.u32.wrap ((BitVec.ofInt 32 x &&& BitVec.ofInt 32 65535).toNat:Int):=rfl;have h:((BitVec.ofInt 32 x) &&& (BitVec.ofInt 32 65535)).toNat=(x%65536).toNat:=by
  rw[BitVec.toNat_and,BitVec.toNat_ofInt,BitVec.toNat_ofInt];have e:((65535:Int)%(2 ^ 32:Nat)).toNat=65535:=by decide
  rw[e,nat_mask16];omega
 rw[h0,h];rw[IntKind.wrap_u32];omega
attribute [go_sem] Xn5 Xna
def Ext (w w':World):Prop:=Below w.heap.size w w'
def Ext.refl:Ext w w:=Below.refl _ _
def Ext.trans {a b c:World}(h:Ext a b)(k:Ext b c):Ext a c:=Below.trans h (Below.mono k h.size)
def Ext.drewN (n:Nat):Ext w (w.drewN n):=⟨rfl,rfl,rfl,Nat.le_refl _,fun _ _=>rfl⟩
def Ext.drew:Ext w w.drew:=⟨rfl,rfl,rfl,Nat.le_refl _,fun _ _=>rfl⟩
def Ext.alloc (o:Obj):Ext w (w.alloc o):=(Below.refl _ _).alloc (Nat.le_refl _) _
def Ext.alloc' {a w:World}(h:Ext a w)(o:Obj):Ext a (w.alloc o):=h.trans (Ext.alloc w o)
def Ext.size {a w:World}(h:Ext a w):a.heap.size<=w.heap.size:=Below.size h
def DA {k:IntKind}{a b:Int}(h:a=b):Ending.returned (.int k a)=.returned (.int k b):=by rw[h]
def Qzw {P:Program}{w w1:World}{ops:Array Oper}{rest:List Oper}{o:Oper}{a:Act}{Q:Exit->Act->World->Prop}(v:Value)
  (hg:o.guard=none) (hrun:(execOp a.eval o).run P w=.ok (.value v) w1) (h:wpList P ops Q rest (a.put o.dst v) w1):wpList P ops Q (o::rest) a w:=by
 refine wpList_plain hg fun K hK=>?_;unfold Oper.wp;rw[hrun];exact hK _ _ h
def HP (need old:Nat)(e:TypeId):need<=grownCap w need old e:=by
 unfold grownCap Question.cut;simp only;omega
def Qy1 (cap i:Nat)(h:i<s.size):(bytesRow s cap)[i]?=some (.int .u8 s[i].toNat):=by
 unfold bytesRow;rw[Array.getElem?_append_left (by simpa using h)];simp[h];rfl
def Xa3 {P:Program}{w:World}{ops:Array Oper}{rest:List Oper}{o:Oper}{a:Act}{Q:Exit->Act->World->Prop}(s:ByteArray)
  (hg:o.guard=none) (src dst e:TypeId) (x:Operand) (hop:o.op=.convert src dst x) (hx:a.eval x=.string s)
  (hs:P.underlying src=some .string) (hd:P.underlying dst=some (.slice e)) (he:P.underlying e=some (.int .u8))
  (h:∀ cap w1,s.size≤cap→w1.heap.size=w.heap.size + 1→Ext w w1→(∀ i (hi:i < s.size),w1.cell? ⟨w.heap.size,i,none⟩=some (.int .u8 s[i].toNat)) →
   wpList P ops Q rest (a.put o.dst (.slice (some ⟨w.heap.size,0,none⟩) s.size cap)) w1):wpList P ops Q (o::rest) a w:=by
 have hrun:=run_bytes_of_string (P:=P) w src dst e s hs hd he
 refine Qzw (w1:=w.drew.alloc (.cells (bytesRow s (grownCap w s.size 0 e)) e ((bytesRow s (grownCap w s.size 0 e)).size,(bytesRow s (grownCap w s.size 0 e)).size + 1))) _ hg ?_
  (h (grownCap w s.size 0 e) _ (HP _ _ _ _) av ((Ext.drew w).alloc' _) fun i hi=>?_)
 ·simp only[execOp,hop,hx,hrun,Sem.run_bind,Result.andThen_ok,Sem.run_pure]
 ·rw[<- Qy1 s (grownCap w s.size 0 e) i hi];exact cell_of_row _ _ _ _ _ _ (heap_alloc_new w.drew _)
def Kq (n:Nat):Nat:=if n=0 then 0 else (n-1)%65535+1
def Xbp (h:n<=65535):Kq n=n:=by unfold Kq;split<;>omega
def Xlf (h:65535<n):Kq (n%65536+n/65536)=Kq n:=by
 unfold Kq;rw[aa af,aa af];omega
def Bx:Kq n<=65535:=by unfold Kq;split<;>omega
def Qy (v:Int)(k:Nat):UInt8:=UInt8.ofNat (IntKind.u8.wrap (v.fdiv (2 ^ min (8*(k:Int)).toNat 64))).toNat
def be (v:Int):Nat->List UInt8
 | 0=>[]
 | k+1=>Qy v k::be v k
def Qk (v:Int):∀ n,(be v n).length=n
 | 0=>rfl
 | n+1=>by simp[be,Qk v n]
def Yen (a b:Nat)(h:a<256):(b*256) ||| a=b*256+a:=by
 have:b*256=b <<< 8:=by rw[Nat.shiftLeft_eq]
 rw[this,Nat.shiftLeft_add_eq_or_of_lt (show a<2 ^ 8 from h)]
def TM (v c:Int)(c0:0<=c)(c1:c<256):bits .or .i64 (IntKind.i64.wrap (v*256)) c=IntKind.i64.wrap (256*v+c):=by
 obtain ⟨n,rfl⟩:=Int.eq_ofNat_of_zero_le c0;have hn:n<256:=by omega
 show IntKind.i64.wrap (((BitVec.ofInt 64 (IntKind.i64.wrap (v*256))) ||| (BitVec.ofInt 64 (n:Int))).toNat:Int)=_;rw[BitVec.toNat_or,BitVec.toNat_ofInt,BitVec.toNat_ofInt];have e1:((n:Int)%((2 ^ 64:Nat):Int)).toNat=n:=by omega
 have e2:(IntKind.i64.wrap (v*256)%((2 ^ 64:Nat):Int)).toNat=(v%72057594037927936).toNat*256:=by
  rw[IntKind.wrap_i64];omega
 rw[e1,e2,Yen _ _ hn,IntKind.wrap_i64,IntKind.wrap_i64];omega
def yH:Int->List UInt8->Int
 | v,[]=>v
 | v,c::l=>yH (IntKind.i64.wrap (256*v+c.toNat)) l
def iT (l:List UInt8):Int:=yH 0 l
def Xv5 (c:UInt8):∀ v,yH v (l++[c])=IntKind.i64.wrap (256*yH v l+c.toNat):=by
 induction l with
 | nil=>intro v;rfl
 | cons a l ih=>intro v;simp only[cons_append,yH];exact ih _
def TN (h:k<l.length):iT (l.take (k+1))=IntKind.i64.wrap (256*iT (l.take k)+(l.getD k 0).toNat):=by
 have e:l.take (k+1)=l.take k++[l.getD k 0]:=by
  rw[List.take_add_one,List.getElem?_eq_getElem h];simp[List.getD,h]
 rw[e];exact Xv5 _ _ _
def oU:Nat->List UInt8->Nat
 | v,[]=>v
 | v,c::l=>oU (256*v+c.toNat) l
def Yhs:∀ v,oU v l<(v+1)*256 ^ l.length:=by
 induction l with
 | nil=>intro v;simp[oU]
 | cons c l ih =>
  intro v;refine Nat.lt_of_lt_of_le (ih _) ?_;rw[length_cons,Nat.pow_succ,Nat.mul_comm (256 ^ l.length) 256,<- Nat.mul_assoc];refine Nat.mul_le_mul_right _ ?_;have:=UInt8.toNat_lt c;omega
def Ye2:∀ (v:Nat),(v+1)*256 ^ l.length<=9223372036854775808->yH v l=oU v l:=by
 induction l with
 | nil=>intro v _;rfl
 | cons c l ih =>
  intro v h;have h2:(256*v+c.toNat+1)*256 ^ l.length<=(v+1)*256 ^ (c::l).length:=by
   rw[length_cons,Nat.pow_succ,Nat.mul_comm (256 ^ l.length) 256,<- Nat.mul_assoc];refine Nat.mul_le_mul_right _ ?_;have:=UInt8.toNat_lt c;omega
  have h3:=Nat.pos_of_ne_zero (n:=256 ^ l.length) (by have:0<256 ^ l.length:=Nat.pow_pos aJ;omega);have h4:256*v+c.toNat<9223372036854775808:=by
   have:256*v+c.toNat+1<=(256*v+c.toNat+1)*256 ^ l.length:=Nat.le_mul_of_pos_right _ h3;omega
  show yH (IntKind.i64.wrap (256*v+c.toNat)) l=oU (256*v+c.toNat) l;have e:IntKind.i64.wrap (256*(v:Int)+(c.toNat:Int))=((256*v+c.toNat:Nat):Int):=by rw[IntKind.wrap_i64];omega
  rw[e];exact ih _ (Nat.le_trans h2 h)
def uS (h:l.length<=7):iT l=oU 0 l:=by
 refine Ye2 l 0 ?_;have:256 ^ l.length<=256 ^ 7:=Nat.pow_le_pow_right aJ h;omega
def By (v:Int)(k:Nat)(hk:k<=8):Qy v k=UInt8.ofNat ((v/256 ^ k)%256).toNat:=by
 unfold Qy;rw[IntKind.wrap_u8];have e:min (8*(k:Int)).toNat 64=8*k:=by omega
 rw[e,Int.fdiv_eq_ediv_of_nonneg _ (Int.pow_nonneg aJ)];have e2:(2:Int) ^ (8*k)=256 ^ k:=by rw[Int.pow_mul];rfl
 rw[e2]
def TO (h:l.length=n)(h7:n<=7):0<=iT l/\iT l<((256 ^ n:Nat):Int):=by
 subst h;rw[uS l h7];have:=Yhs l 0;omega
def Yeo (h:l.length=4):0<=iT l/\iT l<4294967296:=TO l 4 h (by decide)
def Yft (h:l.length=2):0<=iT l/\iT l<65536:=TO l 2 h (by decide)
def TP (a b:Nat)(h:a+b<=l.length):((l.drop a).take b).length=b:=by rw[length_take,List.length_drop];omega
def Mv (n:Int)(w:World)(h:0<=n/\n<=4294967295) :
  Calls Tryz.prog 78 #[.int .u32 n] w fun e w'=>e=.returned (.int .u32 (Kq n.toNat))/\w'=w:=by
 go_enter Tryz.func78,Tryz.ntmps78
 go_wp2
 go_loop [0] (fun v=>∃ k:Nat,k<=4294967295/\v=.int .u32 k/\Kq k=Kq n.toNat) (fun v=>(intOf v).toNat)
 case atStart=>exact ⟨n.toNat,by omega,by rw[Int.toNat_of_nonneg h.1],rfl⟩
 case round =>
  obtain ⟨k,hk,rfl,hb⟩:=hrel;have HB:=Lib.hid hb;clear hb;by_cases hlt:65535<k
  ·go_wp2
   go_round
   case rel=>exact ⟨k%65536+k/65536,by omega,by go_num,by rw[Xlf k hlt,HB.out]⟩
   case measure=>simp[intOf];omega
  ·go_wp2
   go_ret
   exact ⟨by rw[<- HB.out,Xbp k af];rfl,rfl⟩
def qV (a b:Int):Nat:=Kq ((a%65536).toNat+(b%65536).toNat)
def TQ (a b:Int):qV a b<=65535:=Bx _
def Yel (a b:Int)(w:World) :
  Calls Tryz.prog 178 #[.int .i64 a,.int .i64 b] w fun e w'=>e=.returned (.int .i64 (qV a b))/\w'=w:=by
 have hl:=Bx (a%65536+b%65536).toNat
 go_enter Tryz.func178,Tryz.ntmps178
 go_wp2_with (go_at_call 78;refine (Mv _ _ af).mono ?_;rintro e w' ⟨rfl,rfl⟩)
 go_ret
 exact ⟨by unfold qV;rw[Int.toNat_add af af];rfl,rfl⟩
def Yf:List UInt8->Nat
 | []=>0
 | [a]=>a.toNat*256
 | a::b::l=>a.toNat*256+b.toNat+Yf l
def Mw (a b:Nat):Kq (Kq a+b)=Kq (a+b):=by
 unfold Kq;by_cases h:a=0
 ·simp[h]
 ·rw[aa h,aa af,aa af];omega
def Mx:∀ (l m:List UInt8),l.length%2=0->Yf (l++m)=Yf l+Yf m
 | [],m,_=>by simp[Yf]
 | [a],m,h=>by simp at h
 | a::b::l,m,h=>by
  have:=Mx l m (by simp only[length_cons]at h;omega);simp only[cons_append,Yf,this];omega
def dE (l:List UInt8):Nat:=Kq (Yf l)
def DB:dE l<=65535:=Bx _
def Xx1 (h:k+1<s.size):s.data.toList.take (k+2)=s.data.toList.take k++[s[k],s[k+1]]:=by
 rw[List.take_succ_eq_append_getElem (by simpa using h),List.take_succ_eq_append_getElem (by simp;omega)];simp;exact ⟨rfl,rfl⟩
def Ye9 (hk:k%2=0)(h:k+1<s.size) :
  dE (s.data.toList.take (k+2))=Kq (dE (s.data.toList.take k)+s[k].toNat*256+s[k+1].toNat):=by
 rw[Xx1 s k h]
 have hl:(s.data.toList.take k).length % 2=0:=by rw[length_take];have:min k s.data.toList.length=k:=by simp;omega
                                                 omega
 unfold dE;rw[Mx _ _ hl,Nat.add_assoc,Mw];simp[Yf]
def Ydq (hk:k%2=0)(h:k+1=s.size) :
  dE s.data.toList=Kq (dE (s.data.toList.take k)+(s[k]'af).toNat*256):=by
 have e:s.data.toList=s.data.toList.take k++[s[k]'af]:=by
  conv=>lhs;rw[<- List.take_length (l:=s.data.toList)]
  rw[show s.data.toList.length=k+1 by simp;exact h.symm,List.take_succ_eq_append_getElem (by simp;omega)];simp;rfl
 have hl:(s.data.toList.take k).length % 2=0:=by rw[length_take];have:min k s.data.toList.length=k:=by simp;omega
                                                 omega
 conv=>lhs;rw[e]
 unfold dE;rw[Mx _ _ hl,Mw];simp[Yf]
def TR (hs:s.size<=maxLen) :
  Calls Tryz.prog 38 #[.string s] w fun e w'=>e=.returned (.int .i64 (dE s.data.toList))/\∃ n,w'=w.drewN n:=by
 unfold maxLen at hs
 go_enter Tryz.func38,Tryz.ntmps38
 go_wp2
 go_loopw [3,4] (fun v i wr=>∃ k:Nat,k<=s.size/\k%2=0/\i=.int .i64 k/\v=.int .u32 (dE (s.data.toList.take k))/\∃ n,wr=w.drewN n) (fun _ i _=>s.size-(intOf i).toNat)
 case atStart=>exact ⟨0,Nat.zero_le _,rfl,rfl,rfl,0,rfl⟩
 case round =>
  obtain ⟨k,hk,hk2,rfl,rfl,n,hn⟩:=hrel;have HW:=Lib.hid hn;clear hn;have hl:=DB (s.data.toList.take k);have HK:=Lib.hid hk2;clear hk2;by_cases hlt:k+1<s.size
  ·have h2:=Ye9 s k HK.out hlt;have HS:=Lib.hid h2;clear h2;have b1:=s[k].toNat_lt;have b2:=s[k+1].toNat_lt;have i1:(k:Int) < s.size:=by omega
   have i2:(k:Int)+1<s.size:=by omega
   have i3:k<s.size:=by omega
   have i4:(0:Int)<=k:=by omega
   have i5:(0:Int)<=k+1:=by omega
   go_wp2
   go_quiet ((go_at_call 78;exact Calls.quiet_of_same (Mv _ _ af)))
   go_wp2
   go_roundw
   case rel=>exact ⟨k+2,by omega,by have:=HK.out;omega,by go_num,by rw[HS.out];exact congrArg _ (congrArg _ (congrArg _ af)),n+nq,by rw[HW.out,World.drewN_drewN]⟩
   case measure=>simp[intOf];omega
  ·by_cases hodd:s.size % 2=1
   ·have h1:=Ydq s k HK.out (by have:=HK.out;omega);have HS:=Lib.hid h1;clear h1;obtain rfl:k=s.size - 1:=by have:=HK.out;omega
    have b1:=(s[s.size-1]'af).toNat_lt;have hb:((s.size:Int)%2==1)=true:=by simp;omega
    have i1:(s.size:Int)-1<s.size:=by omega
    have i2:(0:Int)<=(s.size:Int)-1:=by omega
    have hl2:=Bx (dE (s.data.toList.take (s.size-1))+(s[s.size-1]'af).toNat*256)
    go_wp2_with (go_at_call 78;refine (Mv _ _ af).mono ?_;rintro e w' ⟨rfl,rfl⟩)
    go_ret
    exact ⟨DA (by rw[HS.out]),n,HW.out⟩
   ·have e1:k=s.size:=by have:=HK.out;omega
    have hb:((s.size:Int)%2==1)=false:=by simp;omega
    rw[e1]at hl
    go_wp2
    go_ret
    exact ⟨by rw[e1,List.take_of_length_le av];rfl,n,HW.out⟩
def l7:List UInt8->Nat->Nat
 | [],_=>0
 | a::l,i=>(if i%2=0 then a.toNat*256 else a.toNat)+l7 l (i+1)
def TU:∀ (l:List UInt8) (i:Nat),l7 l (i+2)=l7 l i
 | [],_=>rfl
 | a::l,i=>by simp only[l7];rw[show i+2+1=i+1+2 by omega,TU l (i+1),show (i+2)%2=i%2 by omega]
def TW:∀ l:List UInt8,l7 l 0=Yf l
 | []=>rfl
 | [a]=>by simp[l7,Yf]
 | a::b::l=>by simp[l7,Yf,TU l 0,TW l];omega
def TX:∀ (l:List UInt8) (a:UInt8) (i:Nat),l7 (l++[a]) i=l7 l i+(if (i+l.length)%2=0 then a.toNat*256 else a.toNat)
 | [],a,i=>by simp[l7]
 | b::l,a,i=>by simp only[cons_append,l7,TX l a (i+1),length_cons];rw[show i+1+l.length=i+(l.length+1) by omega];omega
def TZ:∀ (l:List UInt8) (i:Nat),l7 l i<=65280*l.length
 | [],_=>by simp[l7]
 | a::l,i=>by have:=a.toNat_lt;have:=TZ l (i+1);simp only[l7,length_cons];split<;>omega
def Xvm (h:k<s.size):s.data.toList.take (k+1)=s.data.toList.take k++[s[k]]:=by
 rw[List.take_succ_eq_append_getElem (by simpa using h)];rfl
def Xxl (h:n<=9223372036854775807) :
  Calls Tryz.prog 168 #[.int .i64 n] w fun e w'=>e=.returned (.int .i64 (Kq n))/\w'=w:=by
 unfold Kq;by_cases h0:n=0
 ·subst h0
  go_enter Tryz.func168,Tryz.ntmps168
  go_wp2
  go_ret
  exact ⟨rfl,rfl⟩
 ·have hb:((n:Int) == 0)=false:=by simp;omega
  have h1:1<=n:=by omega
  go_enter Tryz.func168,Tryz.ntmps168
  go_wp2
  go_ret
  exact ⟨DA af,rfl⟩
def T4 (hs:s.size<=140737488351232) :
  Calls Tryz.prog 147 #[.string s] w fun e w'=>e=.returned (.int .i64 (dE s.data.toList))/\Ext w w':=by
 go_enter Tryz.func147,Tryz.ntmps147
 go_wp2_with (refine Xa3 s rfl _ _ _ _ rfl rfl Tryz.underlying9 Tryz.underlying152 Tryz.underlying5 ?_;intro cap w1 hcap hz hb hc)
 go_loop [3,10] (fun v i=>∃ k:Nat,k<=s.size/\i=.int .i64 k/\v=.int .i64 (l7 (s.data.toList.take k) 0)) (fun _ i=>s.size-(intOf i).toNat)
 case atStart=>exact ⟨0,Nat.zero_le _,rfl,rfl⟩
 case round =>
  obtain ⟨k,hk,rfl,rfl⟩:=hrel;have hl:=TZ (s.data.toList.take k) 0;have hl2:(s.data.toList.take k).length=k:=by simp;omega
  have hl3:l7 (s.data.toList.take k) 0<=65280*k:=by rw[hl2]at hl;exact hl
  clear hl;by_cases hlt:k<s.size
  ·have hsn:=TX (s.data.toList.take k) s[k] 0;rw[← Xvm s k hlt,hl2,Nat.zero_add]at hsn;have HS:=Lib.hid hsn;have b1:=s[k].toNat_lt;have hck:=hc k hlt;have i1:(k:Int) < s.size:=by omega
   clear hsn hl2;by_cases h2:k%2=0
   ·have hb2:((k:Int) % 2 == 0)=true:=by simp;omega
    go_wp2
    go_round
    case rel=>exact ⟨k+1,by omega,by go_num,by rw[HS.out,am h2];go_num⟩
    case measure=>simp[intOf];omega
   ·have hb2:((k:Int) % 2 == 0)=false:=by simp;omega
    go_wp2
    go_round
    case rel=>exact ⟨k+1,by omega,by go_num,by rw[HS.out,aa h2];go_num⟩
    case measure=>simp[intOf];omega
  ·clear hl2;have e1:l7 (s.data.toList.take k) 0=Yf s.data.toList:=by rw[List.take_of_length_le (by simp;omega),TW]
   have E:=Lib.hid e1;clear e1;have hbl:=hb
   go_wp2_with (go_at_call 168;refine (Xxl _ _ af).mono ?_;rintro e w' ⟨rfl,rfl⟩)
   go_ret
   exact ⟨DA (by rw[E.out];rfl),hbl⟩
def Xxh (hs:s.size<=140737488351232) :
  Calls Tryz.prog 38 #[.string s] w fun e w'=>e=.returned (.int .i64 (dE s.data.toList))/\Ext w w' :=
 (TR s w (by unfold maxLen;omega)).mono fun _ _ ⟨he,n,hn⟩=>⟨he,by rw[hn];exact Ext.drewN w n⟩
def Yj (l:List UInt8):Nat:=65535-dE l
def T5:(65535:Int)-(dE l:Int)=(Yj l:Int):=by have:=DB l;unfold Yj;omega
def yI:Yj l<=65535:=by unfold Yj;omega
def Xn6 (hs:s.size<=281474976710656) :
  Calls Tryz.prog 120 #[.string s] w fun e w'=>e=.returned (.int .i64 (Yj s.data.toList))/\∃ n,w'=w.drewN n:=by
 have hl:=DB s.data.toList;have hE:=Lib.hid (T5 s.data.toList)
 go_enter Tryz.func120,Tryz.ntmps120
 go_wp2_with (go_at_call 38;refine (TR _ _ (by unfold maxLen;omega)).mono ?_;rintro e w' ⟨rfl,n,rfl⟩)
 go_ret
 exact ⟨DA hE.out,_,rfl⟩
def Xbi (hs:s.size<=140737488351232) :
  Calls Tryz.prog 145 #[.string s] w fun e w'=>e=.returned (.int .i64 (Yj s.data.toList))/\Ext w w':=by
 have hl:=DB s.data.toList;have hE:=Lib.hid (T5 s.data.toList)
 go_enter Tryz.func145,Tryz.ntmps145
 go_wp2_with (go_at_call 147;refine (T4 _ _ hs).mono ?_;rintro e w' ⟨rfl,hb⟩)
 go_ret
 exact ⟨DA hE.out,hb⟩
def Xg0 (c m n:Int)(w:World) :
  Calls Tryz.prog 166 #[.int .i64 c,.int .i64 m,.int .i64 n] w fun e w'=>e=.returned (.int .i64 (65535-qV (qV (65535-c%65536) (65535-m%65536)) n))/\w'=w:=by
 have hl:=TQ (qV (65535-c%65536) (65535-m%65536)) n
 go_enter Tryz.func166,Tryz.ntmps166
 go_wp2_with (go_at_call 178;refine (Yel _ _ _).mono ?_;rintro e w' ⟨rfl,rfl⟩)
 go_ret
 exact ⟨rfl,rfl⟩
end Go.Proofs.YtogckmommodmhaaGreatDoor
