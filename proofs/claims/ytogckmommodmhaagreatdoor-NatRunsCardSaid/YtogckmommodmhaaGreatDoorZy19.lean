import Derived.Test.YtogckmommodmhaaGreatDoorZy18
import Derived.Test.YtogckmommodmhaaGreatDoorZy17
import Derived.Test.YtogckmommodmhaaGreatDoorZy12
namespace Go.Proofs.YtogckmommodmhaaGreatDoor
open List (mem_cons_self getElem_of_mem mem_map map_map map_append map_take map_drop)
open Go.RowKit
set_option linter.all false
set_option maxHeartbeats 32000000
set_option maxRecDepth 100000
def NS.uF (S:NS)(f i:Nat):List AV:=[.sl 10 f 0 S.fl.length S.fl.length,.sl 1 i 0 S.fl.length S.fl.length,.int .i64 S.bG,.int .i64 S.now,.int .i64 S.told,.int .i64 S.ref,.int .i64 S.bm,.bool S.loose]
def NS.cR (S:NS)(f i:Nat):List AV:=S.tb.enc++S.uF f i
def Ye (S:NS):List (Nat×Bk):=[(0,.cells (S.cR 1 2)),(1,.cells (bZ S.aI)),(2,.cells (Ql S.keys))]
section
variable {S:NS}{f i:Nat}
def NS.Bh (h:S.tb.wf):(S.cR f i).length=38:=by simp[NS.cR,NS.uF,Tb.au h]
def NS.yk (h:S.tb.wf):(S.cR f i).take 30=S.tb.enc:=by
 unfold NS.cR;rw[<- Tb.au h,List.take_left]
def NS.fy (h:S.tb.wf)(j:Nat):(S.cR f i).getD (30+j) .any=(S.uF f i).getD j .any:=by
 unfold NS.cR;rw[<- Tb.au h];simp[List.getD,List.getElem?_append_right]
def NS.gg (h:S.tb.wf)(j:Nat)(v:AV):(S.cR f i).set (30+j) v=S.tb.enc++(S.uF f i).set j v:=by
 unfold NS.cR;rw[List.set_append,aa (by rw[Tb.au h];omega),Tb.au h,Nat.add_sub_cancel_left]
def NS.dy {n:Nat}(hf:f<n)(hi:i<n):ah n (S.cR f i):=by simp[NS.cR,NS.uF,BW,Tb.cg,ah,Qe,hf,hi]
def NS.cZ (ρ:Nat->Nat):ay ρ (S.cR f i)=S.cR (ρ f) (ρ i):=by simp[NS.cR,NS.uF,BV,Tb.dt,ay,aA]
end
structure RdR (S:NS)(f i:Nat):Prop where
 len:(S.cR f i).length=38
 tb:(S.cR f i).take 30=S.tb.enc
 r30:(S.cR f i).getD 30 .any=.sl 10 f 0 S.fl.length S.fl.length
 r31:(S.cR f i).getD 31 .any=.sl 1 i 0 S.fl.length S.fl.length
 r32:(S.cR f i).getD 32 .any=.int .i64 S.bG
 r33:(S.cR f i).getD 33 .any=.int .i64 S.now
 r34:(S.cR f i).getD 34 .any=.int .i64 S.told
 r35:(S.cR f i).getD 35 .any=.int .i64 S.ref
 r36:(S.cR f i).getD 36 .any=.int .i64 S.bm
 r37:(S.cR f i).getD 37 .any=.bool S.loose
variable {S:NS}{addr port side d:Int}{c:Fl->Bool}{b:Nat}{m:Mp}(gl:Nat->AV)(e:Int)
def NS.pR (h:S.tb.wf)(f i:Nat):RdR S f i:=⟨NS.Bh h,NS.yk h,NS.fy h 0,NS.fy h 1,NS.fy h 2,NS.fy h 3,NS.fy h 4,NS.fy h 5,NS.fy h 6,NS.fy h 7⟩
def Kx (S:NS):HL (Ye S) 3 where
 mem q hq:=by
  simp[Ye]at hq;rcases hq with rfl|rfl|rfl
  ·exact ⟨(by decide:0<3),NS.dy aJ aJ⟩
  ·exact ⟨(by decide:1<3),Ws 3 _⟩
  ·exact ⟨(by decide:2<3),by simp[bV,Uz]⟩
 mh b hb:=by
  rcases (by omega:b=0\/b=1\/b=2) with rfl|rfl|rfl
  ·exact ⟨_,mem_cons_self,rfl⟩
  ·exact ⟨_,List.mem_cons_of_mem _ mem_cons_self,rfl⟩
  ·exact ⟨_,List.mem_cons_of_mem _ (List.mem_cons_of_mem _ mem_cons_self),rfl⟩
 self q hq:=by
  simp[Ye]at hq;rcases hq with rfl|rfl|rfl<;>rfl
def Bi (S:NS):∀ q ∈ Ye S,q.2.live:=(Kx S).lives
def Ma (S:NS):(Ql S.keys).length=S.fl.length:=wi S
def Mb (S:NS):(bZ S.aI).length=S.fl.length*10:=by rw[Bf];simp[NS.aI]
def Xew (ρ:Nat->Nat)(l:List Fl):Bk.cells (bZ l)=Qw ρ (.cells (bZ l)):=by simp[Qw,Qz]
def Qyx (ρ:Nat->Nat)(l:List Int):Bk.cells (Ql l)=Qw ρ (.cells (Ql l)):=by simp[Qw,Qt]
def To.gW {p:List Nat}{t t':List (Nat×AV)}{h:List (Nat×Bk)}{S:NS}{n:Nat}(f i:Nat)(hd:f≠0/\i≠0/\f≠i)(hp:∀ b ∈ p,b=0)(e0:Qc h n 0=.cells (S.cR f i))(e1:Qc h n f=.cells (bZ S.aI))(e2:Qc h n i=.cells (Ql S.keys))
  (ht:Qr (fun b=>if b=0 then 0 else if b=1 then f else i) 3 t t'):To p ⟨t,h,n⟩ ⟨t',Ye S,3⟩:=by
 obtain ⟨d1,d2,d3⟩:=hd;refine To.pL _ (Kx S) (fun b hb=>by rw[hp b hb];exact ⟨rfl,by decide⟩) (fun b b' hb bL e=>?_) (fun b hb=>?_) ht
 ·rcases (by omega:b=0\/b=1\/b=2) with rfl|rfl|rfl<;>rcases (by omega:b'=0\/b'=1\/b'=2) with rfl|rfl|rfl<;>first|rfl|(simp at e;omega)
 ·rcases (by omega:b=0∨b=1∨b=2) with rfl|rfl|rfl
  ·show Qc h n 0=Qw _ (.cells (S.cR 1 2));rw[e0];simp[Qw,NS.cZ]
  ·show Qc h n f=Qw _ (.cells (bZ S.aI));rw[e1];exact Xew _ _
  ·show Qc h n i=Qw _ (.cells (Ql S.keys));rw[e2];exact Qyx _ _
def NS.SJ (h:S.tb.wf)(v f i:Nat):(S.cR f i).set 34 (.int .i64 v)=({ S with told:=v }:NS).cR f i:=NS.gg h 4 _
def Xep (S:NS)(hw:S.tb.wf)(mU:S.told<=100000)(l:List Ev)(hl:l.length<=64)(ha:∀ e ∈ l,Jd e.t e.s e.a e.b=true/\e.t=(l.headD ⟨0,0,0,0,false⟩).t) :
  GS Tryz.prog gl 112 [.ptr 0 0,.sl 5 3 0 l.length l.length] (Ye S++[(3,.cells (Xk l))]) 4 (.str (nE S.told l)) (Ye (S.log l)++[(3,.cells (Xk l))]) 4:=by
 have dJ:FT Tryz.prog 112 Tryz.f112 (aG Tryz.prog Tryz.f112) [.t 4]:=.of Tryz.func112;refine dJ.gs (ap rfl) (fun q hq=>?_) fun c hN hg=>?_
 ·rcases List.mem_append.1 hq with hq|hq
  ·exact Bi S q hq
  ·obtain rfl:=List.mem_singleton.1 hq;trivial
 conv in aG _ _=>cbv
 unfold Ye;obtain ⟨e1,e2,e3,e4,e5,e6,e7,e8,e9,Bj⟩:=S.pR hw 1 2;have AZ:=Qz6 c.gl 0;unfold Wz at AZ;rw[am af]at AZ;have mE:=fun S':NS=>NS.dy (S:=S') (n:=4) (by decide:1<4) (by decide:2<4);have kU:=fun l=>Ws 4 l;refine Qa ?_;refine Qb ?_ ?_<;>intro h1;rotate_left
 ·obtain rfl:l=[]:=List.eq_nil_of_length_eq_zero af;rw[show S.log []=S from rfl,show nE S.told []=[] from rfl];refine Qa ?_;exact ⟨[],by exact Qi (An @mE @kU)⟩
 cases l with
 | nil=>simp at h1
 | cons e l =>
  have hM:=Xb5 c.gl S.told (e::l) (by simp at hl ⊢;omega);have bl:nD e.t (e::l)=true:=by
   unfold nD;rw[List.all_eq_true];intro x hx;obtain ⟨g1,g2⟩:=ha x hx;have g2:x.t=e.t:=g2;rw[g1,g2];simp
  have kE:¬ 64<l.length+1:=by simp at hl;omega
  unfold pM at hM;dsimp only at hM;rw[aa kE,am bl]at hM;unfold Wz at hM;rw[am af]at hM;have j6:=NS.SJ hw (S.told+(e::l).length) 1 2;have dX:(S.told:Int)+((e::l).length:Nat)=((S.told+(e::l).length:Nat):Int):=by omega
  have lj:nE S.told (e::l)=(if S.told=0 then j8 0 0 2 (jx 6) else [])++j8 S.told e.t 300 (Un (e::l)):=rfl;have Gf:S.log (e::l)={ S with told:=S.told+(e::l).length }:=rfl;rw[lj,Gf];have hB:(Un (e::l)).length<=1400:=by rw[AU];simp at hl ⊢;omega
  have hE:=fun n=>Wv n (e::l);have lr:∀ ρ,ay ρ (Xk (e::l))=Xk (e::l):=fun ρ=>Bk.cells.inj (Xes (x:=.cells (Xk (e::l))) (by simp[bV,Wv]));have dZ:=fun (S:NS) (ρ:Nat->Nat)=>NS.cZ (S:=S) (f:=1) (i:=2) ρ;have hEl:=xW (e::l);have aL:((Xk (e::l)).drop 0).take ((e::l).length*5)=Xk (e::l):=by rw[List.drop_zero,List.take_of_length_le (by rw[hEl];exact Nat.le_refl _)]
  have jO:∀ x:List UInt8,Jn (.aR [.str x,.int .i64 0]):=fun x=>.aR (by simp[Jn.str,Jn.int]);generalize Un (e::l)=B at *
  generalize Xk (e::l)=E at *
  generalize (e::l).length=k at *
  have A0:(j8 S.told e.t 300 B).length<=100000:=by
   simp[j8,Qj];omega
  generalize j8 S.told e.t 300 B=MB at *
  have GB:(j8 0 0 2 (jx 6)).length<=100000:=by decide +kernel
  generalize j8 0 0 2 (jx 6)=TB at *
  by_cases hz:S.told=0
  ·rw[am hz];refine Qd (An @e1 @e7) ?_;refine Qb ?_ ?_<;>intro h2
   ·refine Qa ?_;refine Qk AZ (An @e1 @e7) ?_;refine Qd (An @e1 (An @e7 @aL)) ?_
    ((first|apply Wi|apply Kd)<;>(first|exact hM|(with_reducible exact jO _)|(have aQ:=@e1;have bw:=@e7;have bQ:=@aL;have cy:=@hE;have dh:=@dX;have ff:=@j6;have gu:=@A0;have nk:=@GB;refine XG ?_;clear aQ bw bQ cy dh ff gu nk;first|exact rfl|exact True.intro|((try with_reducible and_intros);all_goals try first|refine zm ?_|exact CL))))
    refine Qd (An @e1 (An @e7 (An @dX (An @j6 (An @A0 @GB))))) ?_;exact ⟨[],by (have aQ:=@mE;have bw:=@kU;have bQ:=@lr;have cy:=@dZ;have dh:=@Qz;have ff:=@Qt;have gu:=@hE;refine XG ?_;clear aQ bw bQ cy dh ff gu;((try with_reducible and_intros);all_goals try first|refine zm ?_|exact CL))<;>rfl⟩
   ·exact absurd hz af
  ·rw[aa hz];refine Qd (An @e1 @e7) ?_;refine Qb ?_ ?_<;>intro h2
   ·exact absurd h2 af
   ·refine Qd (An @e1 (An @e7 @aL)) ?_
    ((first|apply Wi|apply Kd)<;>(first|exact hM|(with_reducible exact jO _)|(have aQ:=@e1;have bw:=@e7;have bQ:=@aL;have cy:=@hE;have dh:=@dX;have ff:=@j6;have gu:=@A0;refine XG ?_;clear aQ bw bQ cy dh ff gu;first|exact rfl|exact True.intro|((try with_reducible and_intros);all_goals try first|refine zm ?_|exact CL))))
    refine Qd (An @e1 (An @e7 (An @dX (An @j6 @A0)))) ?_;exact ⟨[],by (have aQ:=@mE;have bw:=@kU;have bQ:=@lr;have cy:=@dZ;have dh:=@Qz;have ff:=@Qt;have gu:=@hE;refine XG ?_;clear aQ bw bQ cy dh ff gu;((try with_reducible and_intros);all_goals try first|refine zm ?_|exact CL))<;>rfl⟩
def Yek {p:Pk}  (h:Ky p side addr port=0):¬ (side<0\/side>1\/¬ (0<=addr/\addr<=4294967295)\/¬ (0<=port/\port<=65535))/\¬ p.aN=1/\¬ (p.ae=1/\¬ (side=0 ↔ p.flags=8)):=by
 unfold Ky at h;split at h
 ·cases h
 split at h
 ·cases h
 split at h
 ·cases h
 rename_i h1 h2 h3;exact ⟨h1,h2,h3⟩
def Qwb (f:List UInt8)(side addr port:Int)(hl:f.length<=140737488351232)(h:cD f=0)(ht:Ky (aB f) side addr port=0):PS Tryz.prog gl 115 [.str f,.int .i64 side,.int .i64 addr,.int .i64 port] (.aR [.str (Zs (tY (aB f) side addr port)),.int .i64 0]):=by
 have dJ:FT Tryz.prog 115 Tryz.f115 (aG Tryz.prog Tryz.f115) [.t 8,.t 9]:=.of Tryz.func115;refine dJ.ps (ap rfl) (by simp[Qe,ah]) fun c hN hg=>?_
 conv in aG _ _=>cbv
 obtain ⟨h1,h2,h3⟩:=Yek ht;have ny:=Xbt (aB f) (Dh h).e side addr port ht;have hB:=Xrp c.gl ny;have hP:=JW c.gl f hl;unfold pn at hP;rw[am h]at hP;obtain ⟨hp,hr⟩:=R9 h;have ke:=(We (Dh h).e).2.2.2;have hs:side=0\/side=1:=by omega
 clear ny ht;unfold tY at hB ⊢;generalize aB f=K at *
 obtain ⟨K1,K2,K3,K4,K5,K6,K7,K8,K9,K10,K11,K12⟩:=K;unfold Jj at hr;unfold Wj at ke;unfold Pk.enc at hB hP;dsimp only at *
 rcases hs with rfl|rfl
 ·rw[am rfl]at hB ⊢;dsimp only at hB ⊢;refine Qa ?_;refine Xd hP ?_;refine Yc ?_;refine Qa ?_;refine Qb ?_ ?_<;>intro h5
  ·omega
  refine Qa ?_;refine Qb ?_ ?_<;>intro h6
  ·omega
  refine Qa ?_;refine Qb ?_ ?_<;>intro h7
  ·exfalso;simp at h3;omega
  refine Qa ?_;refine Yc ?_;refine Qa ?_;exact N0 hB
 ·rw[aa aJ]at hB ⊢;dsimp only at hB ⊢;refine Qa ?_;refine Xd hP ?_;refine Yc ?_;refine Qa ?_;refine Qb ?_ ?_<;>intro h5
  ·omega
  refine Qa ?_;refine Qb ?_ ?_<;>intro h6
  ·omega
  refine Qa ?_;refine Qb ?_ ?_<;>intro h7
  ·exfalso;simp at h3;omega
  refine Qa ?_;refine Yc ?_;refine Qa ?_;exact N0 hB
def Xrm (p:aq)(hp:p.wf)(a:Int)(to:Bool):PS Tryz.prog gl 69 [.agg p.enc,.int .i64 a,.bool to] (Km (p.drain a to)):=by
 have dJ:FT Tryz.prog 69 Tryz.f69 (aG Tryz.prog Tryz.f69) [.cell 6 (.ag 21),.t 7]:=.of Tryz.func69;refine dJ.ps (ap rfl) (by simp[Qe,ah,Km,aq.cg]) fun c hN me=>?_
 conv in aG _ _=>cbv
 have e2:=aq.au hp;by_cases ha:Ki a=true;rotate_left
 ·have hr:p.drain a to=(p,7):=aa ha;rw[hr];unfold Km;unfold Ki at ha;refine Qd @e2 ?_;refine Qb ?_ ?_<;>intro h1
  ·exact Qi @e2
  ·exact absurd (by simp;omega) ha
 obtain ⟨a,rfl,jD⟩:=z8 a ha;have hd:=aq.il hp jD;have ny:=Z8 p hp a to;have e3:=aq.au (p.kY hp a to);by_cases vE:p.kW a=to
 ·have hr:p.drain a to=(p,8):=(am ha).trans (am (by rw[Int.toNat_natCast];exact vE));rw[hr];rw[vE]at hd;unfold Km;refine Qd @e2 ?_;refine Qb ?_ ?_<;>intro h1
  ·omega
  refine Qd (An @e2 @hd) ?_;refine Yc ?_;exact Qi @e2
 ·have hr:p.drain a to=(p.oh a to,0):=(am ha).trans ((aa (by rw[Int.toNat_natCast];exact vE)).trans (by rw[Int.toNat_natCast]));rw[hr];unfold Km;generalize p.kW a=d at *
  refine Qd @e2 ?_;refine Qb ?_ ?_<;>intro h1
  ·omega
  refine Qd (An @e2 @hd) ?_;refine Qb ?_ ?_<;>intro h2
  ·exact (vE h2).elim
  exact Qi (An @e2 (An @ny @e3))
def NS.SM (h:S.tb.wf)(v:Int)(f i:Nat):(S.cR f i).set 32 (.int .i64 v)=({ S with bG:=v }:NS).cR f i:=NS.gg h 2 _
def Qtz (S:NS)(hS:NB S)(hn:S.bG<=100000)(h48:S.fl.length<=100)(f:Fl):GS Tryz.prog gl 113 [.ptr 0 0,.agg f.enc] (Ye S) 3 (.aR []) [(0,.cells ((S.begin f).cR 3 4)),(3,.cells (bZ (S.begin f).aI)),(4,.cells (Ql (S.begin f).keys))] 5:=by
 have dJ:FT Tryz.prog 113 Tryz.f113 (aG Tryz.prog Tryz.f113) []:=.of Tryz.func113;refine dJ.gs (ap rfl) (Bi S) fun c hN hg=>?_
 conv in aG _ _=>cbv
 have hw:=hS.wf;obtain ⟨e1,e2,e3,e4,e5,e6,e7,e8,e9,Bj⟩:=S.pR hw 1 2;have hl:=Qyh c.gl f.map.ae f.st;have LK:=Gx f.map.ae f.st;have gT:=hS.now;have nA:=hS.lg;have SN:=NS.SM hw (S.bG+1) 1 2;obtain ⟨g1,g2,g3,g4,g5,g6,g7,g8,g9,g10⟩:=({ S with bG:=S.bG+1 }:NS).pR hw 1 2;have jO:=Mb S;have fY:=Ma S;obtain ⟨⟨p0,p1,p2,p3,p4⟩,q0,q1,q2,q3,q4⟩:=f;unfold Ye Fl.enc Zi;dsimp only at hl LK ⊢;have hsn:bZ S.aI++[.int .i64 p0,.int .i64 p1,.int .i64 p2,.int .i64 p3,.int .i64 p4,.int .i64 q0,.int .i64 q1,.int .i64 q2,.int .i64 q3,.int .i64 ((S.now:Int)+Yv p0 q2)]=bZ (S.begin ⟨⟨p0,p1,p2,p3,p4⟩,q0,q1,q2,q3,q4⟩).aI:=by
  simp[NS.aI,NS.begin,bZ,Fl.enc,Zi]
 have bh:Ql S.keys++[.int .i64 (S.bG+1)]=Ql (S.begin ⟨⟨p0,p1,p2,p3,p4⟩,q0,q1,q2,q3,q4⟩).keys:=by
  simp[NS.keys,NS.begin,Ql]
 have bY:∀ f i,S.tb.enc++[.sl 10 f 0 (S.fl.length+1) (S.fl.length+1),.sl 1 i 0 (S.fl.length+1) (S.fl.length+1),.int .i64 (S.bG+1),.int .i64 S.now,.int .i64 S.told,.int .i64 S.ref,.int .i64 S.bm,.bool S.loose]=(S.begin ⟨⟨p0,p1,p2,p3,p4⟩,q0,q1,q2,q3,q4⟩).cR f i:=fun f i=>by
  simp[NS.cR,NS.uF,NS.begin]
 have aD:=Tb.au hw;have h30:∀ v,(({ S with bG:=S.bG+1 }:NS).cR 1 2).set 30 v=S.tb.enc++[v,.sl 1 2 0 S.fl.length S.fl.length,.int .i64 (S.bG+1),.int .i64 S.now,.int .i64 S.told,.int .i64 S.ref,.int .i64 S.bm,.bool S.loose]:=fun v=>NS.gg (S:={ S with bG:=S.bG+1 }) hw 0 v;have h31:∀ v w,(S.tb.enc++[v,.sl 1 2 0 S.fl.length S.fl.length,.int .i64 (S.bG+1),.int .i64 S.now,.int .i64 S.told,.int .i64 S.ref,.int .i64 S.bm,.bool S.loose]).set 31 w=S.tb.enc++[v,w,.int .i64 (S.bG+1),.int .i64 S.now,.int .i64 S.told,.int .i64 S.ref,.int .i64 S.bm,.bool S.loose]:=fun v w=>by
  rw[List.set_append,aa (by rw[aD];decide),aD];rfl
 have SO:∀ v,(S.tb.enc++[v,.sl 1 2 0 S.fl.length S.fl.length,.int .i64 (S.bG+1),.int .i64 S.now,.int .i64 S.told,.int .i64 S.ref,.int .i64 S.bm,AV.bool S.loose]).length=38:=fun v=>by simp[aD]
 generalize S.begin ⟨⟨p0,p1,p2,p3,p4⟩,q0,q1,q2,q3,q4⟩=S' at *
 refine Qd (An @e1 @e6) ?_;refine Qk hl (An @e1 (An @e5 (An @e6 (An @SN (An @g1 @g3))))) ?_;refine Jx ?_;refine Ym (An @jO (An @hsn (An @g1 (An @g4 @g5)))) ?_;refine Ym @g1 ?_;refine Ym (An @fY (An @bh (An @g1 (An @h30 (An @h31 (An @SO @bY)))))) ?_;have Hl:ah 5 (S'.cR 3 4):=NS.dy aJ aJ;have dZ:=fun ρ=>NS.cZ (S:=S') (f:=3) (i:=4) ρ;have kO:=fun l=>Ws 5 l;exact ⟨[(3,5),(4,7)],by exact Qi (An @Hl (An @dZ (An @kO (An @Qz @Qt))))⟩
def Wq (g:Fl->Fl)(l:List Fl)(i:Nat):List Fl:=(l.take i).map g++l.drop i
section
variable {g:Fl->Fl}{l:List Fl}{i:Nat}
def Qtl:Wq g l 0=l:=by simp[Wq]
def Qzo:Wq g l l.length=l.map g:=by simp[Wq]
def yl:(Wq g l i).length=l.length:=by simp[Wq];omega
def SP (hi:i<=l.length)(j:Nat):(Wq g l i)[j]?=if j<i then (l[j]?).map g else l[j]?:=by
 unfold Wq;rw[List.getElem?_append];simp only[List.length_map,List.length_take,Nat.min_eq_left hi];split
 ·rw[List.getElem?_map,List.getElem?_take,am (by assumption)]
 ·rw[List.getElem?_drop];congr 1;omega
def SQ (h:i<l.length):(Wq g l i)[i]'(by rw[yl];exact h)=l[i]:=by
 have e:(Wq g l i)[i]?=some l[i]:=by rw[SP (Nat.le_of_lt h),aa (Nat.lt_irrefl i),List.getElem?_eq_getElem h]
 obtain ⟨_,e2⟩:=List.getElem?_eq_some_iff.1 e;exact e2
def SR (h:i<l.length):(Wq g l i).set i (g l[i])=Wq g l (i+1):=by
 refine List.ext_getElem? fun j=>?_;rw[SP (by omega:i+1<=l.length),List.getElem?_set,SP (Nat.le_of_lt h)];by_cases e:i=j
 ·subst e;simp[yl,h]
 ·rw[aa e];by_cases hlt:j < i
  ·rw[am hlt,am af]
  ·rw[aa hlt,aa af]
def Qtj (h:i<l.length)(e:g l[i]=l[i]):Wq g l (i+1)=Wq g l i:=by
 rw[<- SR h,e]
 conv=>lhs;rw[<- SQ (g:=g) h]
 exact List.set_getElem_self _
end
def Xee (l:List Fl)(i:Nat)(h:i<l.length)(x:Fl):Yj (bZ l) (i*10) x.enc=bZ (l.set i x):=by
 have he:x.enc.length=10:=rfl;unfold Yj;rw[he]
 induction l generalizing i with
 | nil=>simp at h
 | cons a l ih =>
  have ha:a.enc.length=10:=rfl;cases i with
  | zero =>
   show (a.enc++bZ l).take (0*10)++x.enc++(a.enc++bZ l).drop (0*10+10)=x.enc++bZ l;rw[show (0*10+10)=a.enc.length from rfl,List.drop_left];simp
  | succ i =>
   have:=ih i (by simpa using h);show (a.enc++bZ l).take ((i+1)*10)++x.enc++(a.enc++bZ l).drop ((i+1)*10+10)=a.enc++bZ (l.set i x);rw[<- this,show (i+1)*10=a.enc.length+i*10 by rw[ha];omega,List.take_length_add_append,show a.enc.length+i*10+10=a.enc.length+(i*10+10) by omega,List.drop_length_add_append];simp
def oO (c:Fl->Bool)(p:Pk)(bn:Bool)(now:Int)(q:Fl):Fl:=if c q=true then q.next p bn now else q
def Mc (S:NS)(c:Fl->Bool)(m:Mp)(r rp:Int):Prop:=∀ q ∈ S.fl,c q.2=true ↔ q.2.map=m/\q.2.rem=r/\q.2.rport=rp
def Yet (h:NJ S){p q:Int×Fl}(hp:p ∈ S.fl)(hq:q ∈ S.fl)(ha:Xzs p q):p=q:=by
 obtain ⟨i,hi,rfl⟩:=getElem_of_mem hp;obtain ⟨j,hj,rfl⟩:=getElem_of_mem hq;have hu:=List.pairwise_iff_getElem.1 h.rA;rcases Nat.lt_trichotomy i j with h1|h1|h1
 ·exact (hu i j hi hj h1 ha).elim
 ·subst h1;rfl
 ·exact (hu j i hj hi h1 ⟨ha.1.symm,ha.2.1.symm,ha.2.2.symm⟩).elim
def Yh2 (h:NJ S){p q:Int×Fl}(hp:p ∈ S.fl)(hq:q ∈ S.fl)(ha:p.1=q.1):p=q:=by
 obtain ⟨i,hi,rfl⟩:=getElem_of_mem hp;obtain ⟨j,hj,rfl⟩:=getElem_of_mem hq;have hu:=List.pairwise_iff_getElem.1 h.dS;rcases Nat.lt_trichotomy i j with h1|h1|h1
 ·exact (hu i j hi hj h1 ha).elim
 ·subst h1;rfl
 ·exact (hu j i hj hi h1 ha.symm).elim
def Xe7 (h1:∀ q ∈ S.fl,c q.2=false):(∀ p bn now,S.aI.map (oO c p bn now)=S.aI)/\S.aI.any c=false:=by
 refine ⟨fun p bn now=>?_,?_⟩
 ·conv=>rhs;rw[← List.map_id S.aI]
  refine List.map_congr_left fun q hq=>?_;obtain ⟨x,hx,rfl⟩:=mem_map.1 hq;unfold oO;rw[h1 x hx];rfl
 ·rw[List.any_eq_false];intro q hq;obtain ⟨x,hx,rfl⟩:=mem_map.1 hq;rw[h1 x hx];simp
def Qtm (h:NJ S)   {r rp:Int}(hc:Mc S c m r rp)(h0:S.findF m r rp=0):(∀ p bn now,S.aI.map (oO c p bn now)=S.aI)/\S.aI.any c=false:=by
 have br:=RU (NI.A5 h) h0;refine Xe7 fun q hq=>?_;cases e:c q.2 with
 | false=>rfl
 | true=>exact (br q hq ((hc q hq).1 e)).elim
def Qtv (h:NJ S)   {r rp:Int}(hc:Mc S c m r rp)(h0:S.findF m r rp≠0)(p:Pk)(bn:Bool):S.aI.map (oO c p bn S.now)=(S.goes (S.findF m r rp) p bn).aI/\S.aI.any c=true:=by
 obtain ⟨x,hx,e,a1,a2,a3⟩:=GH h0;refine ⟨?_,?_⟩
 ·show (S.fl.map Prod.snd).map (oO c p bn S.now)=(S.fl.map fun q=>if q.1=S.findF m r rp then (q.1,q.2.next p bn S.now) else q).map Prod.snd;rw[map_map,map_map];refine List.map_congr_left fun q hq=>?_;show oO c p bn S.now q.2=(if q.1=S.findF m r rp then (q.1,q.2.next p bn S.now) else q).2;rw[e];unfold oO;by_cases hk:q.1=x.1
  ·obtain rfl:=Yh2 h hq hx hk;rw[am rfl,am ((hc q hq).2 ⟨a1,a2,a3⟩)]
  ·rw[aa hk,aa];intro Hm;obtain ⟨b1,b2,b3⟩:=(hc q hq).1 Hm;exact hk (congrArg Prod.fst (Yet h hq hx ⟨b1.trans a1.symm,b2.trans a2.symm,b3.trans a3.symm⟩))
 ·rw[List.any_eq_true];exact ⟨x.2,mem_map.2 ⟨x,hx,rfl⟩,(hc x hx).2 ⟨a1,a2,a3⟩⟩
def Md {l:List Fl}{i:Nat}(h:i<l.length)(c:Fl->Bool):(l.take (i+1)).any c=((l.take i).any c||c l[i]):=by
 have e:l.take (i+1)=l.take i++[l[i]]:=by rw[List.take_succ,List.getElem?_eq_getElem h];rfl
 rw[e,List.any_append];simp
def Qo7 {f:List UInt8}  (h:cD f=0)(ht:Ky (aB f) side addr port=0)(hq:port≠0\/GU (aB f) side≠65535):Wr f side addr port=Zs (tY (aB f) side addr port):=by
 unfold Wr;rw[aa (by rw[h];simp),aa (by rw[ht];simp),Xm8 h ht hq]
def qK (p:Pk)(s:Int)(q:Fl):Bool:=q.map.s==s&&q.map.ae==p.ae&&q.map.aF==p.aj&&q.rem==p.dst&&q.rport==p.av
def Qyd {p:Pk}{s:Int}{q:Fl}:qK p s q=true ↔ Xz p.ae s p.aj q.map=true/\q.rem=p.dst/\q.rport=p.av:=by
 simp only[qK,Xz,Bool.and_eq_true,beq_iff_eq];constructor
 ·rintro ⟨⟨⟨⟨a,b⟩,c⟩,d⟩,e⟩;exact ⟨⟨⟨b,a⟩,c⟩,d,e⟩
 ·rintro ⟨⟨⟨b,a⟩,c⟩,d,e⟩;exact ⟨⟨⟨⟨a,b⟩,c⟩,d⟩,e⟩
def Xw5 (hS:NJ S)(p:Pk):∃ m,(∀ q ∈ S.fl,qK p (p.aE-167772161) q.2=true->q.2.map=m) /\
  ((S.cY p=0∧(∀ bn now,S.aI.map (oO (qK p (p.aE - 167772161)) p bn now)=S.aI)∧S.aI.any (qK p (p.aE - 167772161))=false) ∨
   (S.cY p≠0/\S.fwd p=some m/\S.aI.map (oO (qK p (p.aE-167772161)) p false S.now)=(S.goes (S.cY p) p false).aI/\S.aI.any (qK p (p.aE-167772161))=true)):=by
 have yb:∀ q ∈ S.fl,Xz p.ae (p.aE-167772161) p.aj q.2.map=true->S.fwd p=some q.2.map:=fun q hq h=>by
  have:=hS.gt.fwd (hS.kp q hq);simp only[Xz,Bool.and_eq_true,beq_iff_eq]at h;rw[h.1.1,h.1.2,h.2]at this;exact this
 cases h:S.fwd p with
 | none =>
  have br:∀ q ∈ S.fl,qK p (p.aE-167772161) q.2=false:=fun q hq=>by
   cases e:qK p (p.aE-167772161) q.2 with
   | false=>rfl
   | true=>exact absurd (h.symm.trans (yb q hq (Qyd.1 e).1)) aw
  obtain ⟨a,b⟩:=Xe7 br;exact ⟨cM,fun q hq e=>absurd (e.symm.trans (br q hq)) aw,.inl ⟨by unfold NS.cY;rw[h],a p,b⟩⟩
 | some m =>
  have hk:S.cY p=S.findF m p.dst p.av:=by unfold NS.cY;rw[h]
  have hm:Xz p.ae (p.aE-167772161) p.aj m=true:=List.find?_some h;have hH:Mc S (qK p (p.aE-167772161)) m p.dst p.av:=fun q hq=>by
   rw[Qyd];refine and_congr_left fun _=>⟨fun e=>?_,fun e=>by rw[e];exact hm⟩
   exact (Option.some.inj (h.symm.trans (yb q hq e))).symm
  refine ⟨m,fun q hq e=>((hH q hq).1 e).1,?_⟩;rw[hk];by_cases h0:S.findF m p.dst p.av=0
  ·obtain ⟨a,b⟩:=Qtm hS hH h0;exact .inl ⟨h0,a p,b⟩
  ·obtain ⟨a,b⟩:=Qtv hS hH h0 p false;exact .inr ⟨h0,rfl,a,b⟩
def Yd6:PS Tryz.prog gl 116 [.int .i64 e] (.agg [.int .i64 e,.str [],.bool false,.str []]):=by
 have dJ:FT Tryz.prog 116 Tryz.f116 (aG Tryz.prog Tryz.f116) [.cell 2 (.ag 4)]:=.of Tryz.func116;refine dJ.ps (ap rfl) (by simp[Qe,ah]) fun c hN hg=>?_
 conv in aG _ _=>cbv
 exact Qp
def Xdz (S:NS)(k:Int)(p:Pk)(bn:Bool)(f i:Nat):(S.goes k p bn).cR f i=S.cR f i:=by
 have e:(S.goes k p bn).fl.length=S.fl.length:=by simp[NS.goes]
 unfold NS.cR NS.uF;rw[e];rfl
def oP (m:Mp)(r rp:Int)(q:Fl):Bool:=decide (q.map=m)&&q.rem==r&&q.rport==rp
def ym (m:Mp)(r:Int)(q:Fl):Bool:=decide (q.map=m)&&q.rem==r
def Xvx (S:NS)(m:Mp)(r rp:Int):Mc S (oP m r rp) m r rp:=fun q _=>by simp[oP,and_assoc]
def Xqm (S:NS)(hS:NI S)(nA:S.bG<=100000)(f:List UInt8)(hf:f.length<=140737488351232) :
  GD Tryz.prog gl 67 [.ptr 0 0,.str f] (Ye S) 3 [0] (.agg (S.aF f).1.enc) (Ye (S.aF f).2):=by
 have dJ:FT Tryz.prog 67 Tryz.f67 (aG Tryz.prog Tryz.f67) [.cell 4 (.ag 4)]:=.of Tryz.func67;obtain ⟨x,hx⟩:∃ x,S.aF f=x:=⟨_,rfl⟩
 rw[hx];refine dJ.gq (ap rfl) (Bi S) aw fun c bf hg=>?_;subst hg
 conv in aG _ _=>cbv
 have hw:=hS.wf;obtain ⟨e1,e2,e3,e4,e5,e6,e7,e8,e9,Bj⟩:=S.pR hw 1 2;have Ba:=hS.len;have hP:=JW c.gl f hf;have br:∀ e,nh Tryz.prog c .dg [.cl 116 [],.int .i64 e] (.agg [.int .i64 e,.str [],.bool false,.str []]):=fun e=>Jp (caps:=[]) (Yd6 c.gl e) (by simp[ah,Qe]);obtain ⟨Z1,rD,qV⟩:∃ Z:Int,(3405803777:Int)=Z/\0<=Z/\Z<=4294967296:=⟨_,rfl,by decide,by decide⟩
 obtain ⟨Z2,uB,cE⟩:∃ Z:Int,(167772161:Int)=Z/\0<=Z/\Z<=4294967296:=⟨_,rfl,by decide,by decide⟩
 rw[rD,uB];obtain ⟨p,e,py,yd,vp⟩:=LP f;rw[py]at hP;rw[Sd]at hx;obtain ⟨p1,p2,p3,p4,p5,p6,p7,p8,p9,db,dc,pb⟩:=p;unfold Pk.enc at hP;unfold Ye;dsimp only at hP;refine Qa ?_;refine Xd hP ?_;refine Qa ?_;refine Qb ?_ ?_<;>intro h1
 ·have he:=vp h1;subst he;rw[am h1]at hx;subst hx;have hn:=br (cD f);unfold bJ Rp.enc;refine Qa ?_;refine Xd hn ?_;exact ⟨(),To.gW 1 2 (by decide) (by simp) rfl (by first|rfl|(rw[hF];rfl)) rfl (by simp[Qr,Qe,ah,look,aA,ay])⟩
 obtain ⟨he,hp,sx,oL⟩:=yd h1;have ke:=(We (Dh he).e).2.2.2;rw[aa (by rw[he];simp)]at hx;rw[hp]at hx ke;unfold Jj at oL;unfold Wj at ke;dsimp only at hx sx oL ke;refine Qa ?_;refine Qb ?_ ?_<;>intro h2
 ·rw[am af]at hx;subst hx;have hn:=br 7;unfold bJ Rp.enc;refine Qa ?_;refine Xd hn ?_;exact ⟨(),To.gW 1 2 (by decide) (by simp) rfl (by first|rfl|(rw[hF];rfl)) rfl (by simp[Qr,Qe,ah,look,aA,ay])⟩
 rw[aa af]at hx;refine Qa ?_;refine Qb ?_ ?_<;>intro h3
 ·rw[am af]at hx;subst hx;have hn:=br 4;unfold bJ Rp.enc;refine Qa ?_;refine Xd hn ?_;exact ⟨(),To.gW 1 2 (by decide) (by simp) rfl (by first|rfl|(rw[hF];rfl)) rfl (by simp[Qr,Qe,ah,look,aA,ay])⟩
 rw[aa af]at hx;refine Qa ?_;refine Qb ?_ ?_<;>intro h4
 ·rw[am af]at hx;subst hx;have hn:=br 12;unfold bJ Rp.enc;refine Qa ?_;refine Xd hn ?_;exact ⟨(),To.gW 1 2 (by decide) (by simp) rfl (by first|rfl|(rw[hF];rfl)) rfl (by simp[Qr,Qe,ah,look,aA,ay])⟩
 rw[aa af]at hx;have gP:=Qz4 c.gl S.tb hw (by have:=xF (Kv.2 hS.gt);omega) p1 (p4-Z1) p5;rw[show p4-3405803777=p4-Z1 by omega]at hx;refine Qd (An @e1 @e2) ?_;cases hm:S.tb.maps.find? (Ja p1 (p4-Z1) p5) with
 | none =>
  rw[hm]at gP hx;unfold gb at gP;dsimp only at gP hx;rw[show cM.enc=[.int .i64 0,.int .i64 0,.int .i64 0,.int .i64 0,.int .i64 0] from rfl]at gP;refine Qk gP (An @e1 @e2) ?_;refine Yc ?_;subst hx;have hn:=br 7;unfold bJ Rp.enc;refine Qa ?_;refine Xd hn ?_;exact ⟨(),To.gW 1 2 (by decide) (by simp) rfl (by first|rfl|(rw[hF];rfl)) rfl (by simp[Qr,Qe,ah,look,aA,ay])⟩
 | some m =>
  rw[hm]at gP hx;unfold gb at gP;dsimp only at gP hx;have mW:=hS.gt.wF (List.mem_of_find?_eq_some hm);have SS:m.port=p5:=by
   have iP:=List.find?_some hm;simp only[Ja,Bool.and_eq_true,beq_iff_eq]at iP;exact iP.2
  have hH:=Xvx S m p2 p3;have SU:=Qtm hS.toNJ hH;have SV:=fun h=>Qtv hS.toNJ hH h ⟨p1,p2,p3,p4,p5,p6,p7,p8,p9,db,dc,pb⟩ true;have SW:S.aI.any (ym m p2)=S.fl.any fun q=>decide (q.2.map=m)&&q.2.rem==p2:=by
   unfold NS.aI;rw[List.any_map];rfl
  rw[<- SW]at hx;have SX:∀ q:Fl,oP m p2 p3 q=true->oO (oP m p2 p3) ⟨p1,p2,p3,p4,p5,p6,p7,p8,p9,db,dc,pb⟩ true S.now q=q.next ⟨p1,p2,p3,p4,p5,p6,p7,p8,p9,db,dc,pb⟩ true S.now:=fun q h=>am h;have SY:∀ q:Fl,oP m p2 p3 q=false->oO (oP m p2 p3) ⟨p1,p2,p3,p4,p5,p6,p7,p8,p9,db,dc,pb⟩ true S.now q=q:=fun q h=>aa (by rw[h];simp);have yn:S.aI.length=S.fl.length:=by simp[NS.aI]
  have yUa:=Mb S;have jK:ah 6 (S.cR 1 2):=NS.dy aJ aJ;have dZ:=fun ρ=>NS.cZ (S:=S) (f:=1) (i:=2) ρ;have kO:=fun l=>Ws 6 l;generalize hg:oO (oP m p2 p3) ⟨p1,p2,p3,p4,p5,p6,p7,p8,p9,db,dc,pb⟩ true S.now=g at *
  generalize hF:S.aI=F at *
  have fL:Wq g F 0=F:=Qtl;obtain ⟨mp,ms,mi,ma,mt⟩:=m;unfold Mp.enc at gP;dsimp only at gP mW SS;refine Qk gP (An @e1 (An @e2 (An @e3 @Bj))) ?_;refine Yc ?_;refine Qd (An @e1 (An @e3 @Bj)) ?_
  refine Yk (fun i:Nat=>i≤S.fl.length) (fun i=>⟨[(0,.ptr 0 0),(1,.str f),(4,.ptr 3 0),(5,.cl 116 []),(6,.ptr 4 0),(8,.int .i64 (p4 - Z1)),(9,.ptr 5 0),(11,.bool (S.loose || (F.take i).any (ym ⟨mp,ms,mi,ma,mt⟩ p2))),(12,.bool ((F.take i).any (oP ⟨mp,ms,mi,ma,mt⟩ p2 p3))),(77,.sl 10 1 0 S.fl.length S.fl.length),(78,.int .i64 S.fl.length),(79,.int .i64 i)],
   [(5,.cells [.int .i64 mp,.int .i64 ms,.int .i64 mi,.int .i64 ma,.int .i64 mt]),(4,.cells [.int .i64 p1,.int .i64 p2,.int .i64 p3,.int .i64 p4,.int .i64 p5,.int .i64 p6,.int .i64 p7,.int .i64 p8,.int .i64 p9,.int .i64 db,.int .i64 dc,.str pb]),(3,.cells [.int .i64 0,.str [],.bool false,.str []]),(0,.cells (S.cR 1 2)),(1,.cells (bZ (Wq g F i))),(2,.cells (Ql S.keys))],6⟩) (fun i=>S.fl.length-i) dJ.mixed [0] bf
   ⟨0,Nat.zero_le _,To.sub (ρ:=[]) rfl ?_⟩ fun i hi=>?_
  ·exact Qi (An @fL (An @List.any_nil.{0} (An @jK (An @dZ (An @kO (An @Qz @Qt))))))
  refine Qa ?_;refine Qb ?_ ?_<;>intro h6
  ·have aK:i < F.length:=by omega
   have uG:(bZ (Wq g F i)).length=S.fl.length*10:=by rw[Bf,yl,yn]
   have aL:((bZ (Wq g F i)).drop (i*10)).take 10=F[i].enc:=by rw[Hg _ i (by rw[yl];exact aK),SQ aK]
   have bA:Yj (bZ (Wq g F i)) (i*10) (g F[i]).enc=bZ (Wq g F (i+1)):=by rw[Xee _ _ (by rw[yl];exact aK),SR aK]
   have cW:=Qtj (g:=g) aK;have nX:=Md aK (ym ⟨mp,ms,mi,ma,mt⟩ p2);have nd:=Md aK (oP ⟨mp,ms,mi,ma,mt⟩ p2 p3);have ep:=SX F[i];have Me:=SY F[i];generalize F[i]=q at *
   obtain ⟨⟨q0,q1,q2,q3,q4⟩,k0,k1,k2,k3,k4⟩:=q;have CW:=@Aj c true ⟨q0,q1,q2,q3,q4⟩ ⟨mp,ms,mi,ma,mt⟩;unfold Fl.enc Zi at aL;unfold Mp.enc at CW;dsimp only at aL CW;refine Qd (An @uG @aL) ?_;refine Qk CW (An @uG @aL) ?_;refine Qb ?_ ?_<;>intro h7
   ·have gX:ym ⟨mp,ms,mi,ma,mt⟩ p2 ⟨⟨q0,q1,q2,q3,q4⟩,k0,k1,k2,k3,k4⟩=false:=by
     unfold ym;rw[Bool.and_eq_false_iff,decide_eq_false_iff_not,beq_eq_false_iff_ne];exact h7
    have nf:oP ⟨mp,ms,mi,ma,mt⟩ p2 p3 ⟨⟨q0,q1,q2,q3,q4⟩,k0,k1,k2,k3,k4⟩=false:=by
     unfold oP;rw[Bool.and_eq_false_iff,Bool.and_eq_false_iff,decide_eq_false_iff_not,beq_eq_false_iff_ne];exact .inl h7
    rw[gX,Bool.or_false]at nX;rw[nf,Bool.or_false]at nd;have um:=cW (Me nf);refine Qa ?_;refine ⟨i+1,by omega,To.sub (ρ:=[]) rfl ?_,by omega⟩;exact Qi (An @nX (An @nd (An @um (An @jK (An @dZ (An @kO (An @Qz @Qt)))))))
   ·obtain ⟨rJ,xg⟩:=h7;have gX:ym ⟨mp,ms,mi,ma,mt⟩ p2 ⟨⟨q0,q1,q2,q3,q4⟩,k0,k1,k2,k3,k4⟩=true:=by
     unfold ym;rw[Bool.and_eq_true,decide_eq_true_eq,beq_iff_eq];exact ⟨rJ,xg⟩
    rw[gX,Bool.or_true]at nX;have pA:=Qwg c.gl q0 q1 q2 q3 q4 k0 k1 k2 k3 k4 p1 p2 p3 p4 p5 p6 p7 p8 p9 db dc pb true S.now af;refine Qa ?_;refine Qb ?_ ?_<;>intro h8
    ·have nf:oP ⟨mp,ms,mi,ma,mt⟩ p2 p3 ⟨⟨q0,q1,q2,q3,q4⟩,k0,k1,k2,k3,k4⟩=true:=by
      unfold oP;rw[Bool.and_eq_true,Bool.and_eq_true,decide_eq_true_eq,beq_iff_eq,beq_iff_eq];exact ⟨⟨rJ,xg⟩,h8⟩
     rw[nf,Bool.or_true]at nd;rw[ep nf]at bA;unfold Fl.next Fl.enc at bA;unfold Zi at bA pA;dsimp only at bA pA;generalize Ul q0 k2 k3 k4 p8 true S.now=N at *
     obtain ⟨N1,N2,N3⟩:=N;dsimp only at bA pA;refine Qd (An @e1 (An @e3 @e6)) ?_;refine Qk pA (An @e1 (An @e3 @e6)) ?_;refine Qd (An @uG @bA) ?_;refine ⟨i+1,by omega,To.sub (ρ:=[]) rfl ?_,by omega⟩;exact Qi (An @nX (An @nd (An @jK (An @dZ (An @kO (An @Qz @Qt))))))
    ·have nf:oP ⟨mp,ms,mi,ma,mt⟩ p2 p3 ⟨⟨q0,q1,q2,q3,q4⟩,k0,k1,k2,k3,k4⟩=false:=by
      unfold oP;rw[Bool.and_eq_false_iff,beq_eq_false_iff_ne];exact .inr h8
     rw[nf,Bool.or_false]at nd;have um:=cW (Me nf);refine Qa ?_;refine ⟨i+1,by omega,To.sub (ρ:=[]) rfl ?_,by omega⟩;exact Qi (An @nX (An @nd (An @um (An @jK (An @dZ (An @kO (An @Qz @Qt)))))))
  ·obtain rfl:i=S.fl.length:=by omega
   have bl:Wq g F S.fl.length=F.map g:=by rw[<- yn,Qzo]
   have mX:F.take S.fl.length=F:=by rw[<- yn,List.take_length]
   rw[bl,mX];clear bl mX;have lG:=mW.a;have lH:=mW.aF;have zU:=mW.s;have hm4:=mW.port;dsimp only at lG lH zU hm4;rw[uB]at hx;have te:Ky (aB f) 1 (Z2+ms) mi=0:=by
    rw[hp];unfold Ky;dsimp only;rw[aa af,aa h4,aa af]
   have hq:GU (aB f) 1≠65535:=by
    rw[hp];unfold GU;rw[aa aJ];dsimp only;omega
   have hT:=Qwb c.gl f 1 (Z2+ms) mi hf he te;rw[Qo7 he te (.inr hq)]at hx;generalize Zs (tY (aB f) 1 (Z2+ms) mi)=G at *
   by_cases h0:S.findF ⟨mp,ms,mi,ma,mt⟩ p2 p3=0
   ·rw[aa (by rw[h0];simp)]at hx;obtain ⟨k1,k2⟩:=SU h0;have k3:F.map g=F:=by rw[← hg];exact k1 _ _ _
    rw[k3,k2];generalize F.any (ym ⟨mp,ms,mi,ma,mt⟩ p2)=B at *
    refine Qd (An @e1 @e3) ?_;refine Yc ?_;cases hL:(S.loose||B) with
    | false =>
     rw[am (by simpa using hL)]at hx;subst hx
     (have aQ:=@e1;have bw:=@e3;refine XG ?_;clear aQ bw;((try with_reducible and_intros);all_goals try first|refine zm ?_|exact CL))
     any_goals (intro h;cases h;done)
     refine Yc ?_;have hn:=br 11;unfold bJ Rp.enc;refine Qa ?_;refine Xd hn ?_;exact ⟨(),To.gW 1 2 (by decide) (by simp) rfl (by first|rfl|(rw[hF];rfl)) rfl (by simp[Qr,Qe,ah,look,aA,ay])⟩
    | true =>
     rw[aa (by intro h;rw[h.1,h.2]at hL;cases hL)]at hx;by_cases c1:p1=17
     ·have f1:(p1 != 17)=false:=by rw[c1];rfl
      by_cases c2:S.fl.length=48
      ·rw[am (.inr af)]at hx;subst hx;refine Qd (An @e1 (An @e3 @f1)) ?_;refine Qb ?_ ?_<;>intro h9
       ·have hn:=br 11;unfold bJ Rp.enc;refine Qa ?_;refine Xd hn ?_;exact ⟨(),To.gW 1 2 (by decide) (by simp) rfl (by first|rfl|(rw[hF];rfl)) rfl (by simp[Qr,Qe,ah,look,aA,ay])⟩
       ·exact absurd c2 af
      ·rw[aa af]at hx;subst hx;have jh:=Qtz c.gl S hS.toNJ.nb nA af ⟨⟨mp,ms,mi,ma,mt⟩,p2,p3,2,0,0⟩;unfold Ye Fl.enc Zi at jh;dsimp only at jh;rw[hF]at jh;have uC:ah 3 (S.cR 1 2)∧(∀ l,ah 3 (bZ l))∧(∀ S':NS,ah 5 (S'.cR 3 4))∧∀ l,ah 5 (bZ l):=⟨NS.dy aJ aJ,fun l=>Ws 3 l,fun _=>NS.dy aJ aJ,fun l=>Ws 5 l⟩
       have wE:∀ ρ,ay ρ (S.cR 1 2)=S.cR (ρ 1) (ρ 2)/\∀ S':NS,ay ρ (S'.cR 3 4)=S'.cR (ρ 3) (ρ 4):=fun ρ=>⟨NS.cZ ρ,fun S'=>NS.cZ (S:=S') ρ⟩
       refine Qd (An @e1 (An @e3 @f1)) ?_;refine Qb ?_ ?_<;>intro h9
       ·exact absurd h9 af
       refine Qd (An @e1 @e3) ?_
       ((first|refine Kk (ins:=[0,1,2]) jh ?_ ?_|refine Jc (ins:=[0,1,2]) jh ?_ ?_|refine Jb (ins:=[0,1,2]) jh ?_ ?_|refine Zc (ins:=[0,1,2]) jh ?_ ?_)<;>(have aQ:=@e1;have bw:=@e3;have bQ:=@uC;have cy:=@wE;have dh:=@Qz;have ff:=@Qt;refine XG ?_;clear aQ bw bQ cy dh ff;(try first|exact rfl|exact True.intro);((try with_reducible and_intros);all_goals try first|refine zm ?_|exact CL)))
       ·decide
       refine Qa ?_;refine Xd hT ?_;refine Qa ?_;exact ⟨(),To.gW 6 7 aJ aw rfl rfl rfl (by simp[Rp.enc,Qr,Qe,ah,look,aA,ay])⟩
     ·have f1:(p1 != 17)=true:=bne_iff_ne.2 c1;rw[am (.inl c1)]at hx;subst hx
      (have aQ:=@e1;have bw:=@e3;have bQ:=@f1;refine XG ?_;clear aQ bw bQ;((try with_reducible and_intros);all_goals try first|refine zm ?_|exact CL))
      any_goals (intro h;cases h;done)
      refine Yc ?_;have hn:=br 11;unfold bJ Rp.enc;refine Qa ?_;refine Xd hn ?_;exact ⟨(),To.gW 1 2 (by decide) (by simp) rfl (by first|rfl|(rw[hF];rfl)) rfl (by simp[Qr,Qe,ah,look,aA,ay])⟩
   ·rw[am h0]at hx;obtain ⟨k1,k2⟩:=SV h0;rw[k1,k2];subst hx;refine Qa ?_;refine Yc ?_;refine Qa ?_;refine Xd hT ?_;refine Qa ?_;exact ⟨(),To.gW 1 2 aJ aw (congrArg Bk.cells (Xdz ..).symm) rfl (congrArg (fun l=>Bk.cells (Ql l)) (R6 ..).symm) (by simp[Rp.enc,Qr,Qe,ah,look,aA,ay])⟩
def Xqx:PS Tryz.prog gl 104 [.int .i64 e] (.agg [.int .i64 e,.str [],.bool false,.str []]):=by
 have dJ:FT Tryz.prog 104 Tryz.f104 (aG Tryz.prog Tryz.f104) [.cell 2 (.ag 4)]:=.of Tryz.func104;refine dJ.ps (ap rfl) (by simp[Qe,ah]) fun c hN hg=>?_
 conv in aG _ _=>cbv
 exact Qp
def NS.SZ (h:S.tb.wf)(v f i:Nat):(S.cR f i).set 35 (.int .i64 v)=({ S with ref:=v }:NS).cR f i:=NS.gg h 5 _
def yo (a:Ac):List (Nat×Bk):=[(3,.cells [.ptr 0 0]),(4,.cells a.enc),(5,.cells [.cl 104 []])]
def Ybc (S:NS)(hw:S.tb.wf)(R1:S.ref<=4)(a:Ac)(hf:a.frame.length<=140737488351232)(yd:cD a.frame=0)(e:Int):GS Tryz.prog gl 105 [.int .i64 e,.ptr 3 0,.ptr 5 0,.ptr 4 0] (Ye S++yo a) 6 (.agg (S.refuse a.frame e).1.enc) (Ye (S.refuse a.frame e).2++yo a) 6:=by
 have dJ:FT Tryz.prog 105 Tryz.f105 (aG Tryz.prog Tryz.f105) [.cell 5 (.ag 4)]:=.of Tryz.func105;refine dJ.gs (ap rfl) (fun q hq=>?_) fun c hN hg=>?_
 ·rcases List.mem_append.1 hq with hq|hq
  ·exact Bi S q hq
  ·simp[yo]at hq;rcases hq with rfl|rfl|rfl<;>trivial
 conv in aG _ _=>cbv
 obtain ⟨e1,e2,e3,e4,e5,e6,e7,e8,e9,Bj⟩:=S.pR hw 1 2;have hR:=Xgo c.gl a.frame S.ref hf;have hn:nh Tryz.prog c .dg [.cl 104 [],.int .i64 e] (.agg [.int .i64 e,.str [],.bool false,.str []]):=Jp (caps:=[]) (Xqx c.gl e) (by simp[ah,Qe]);have mE:=fun S':NS=>NS.dy (S:=S') (n:=6) (by decide:1<6) (by decide:2<6);have dZ:=fun (S:NS) (ρ:Nat->Nat)=>NS.cZ (S:=S) (f:=1) (i:=2) ρ;have kO:=fun l=>Ws 6 l;unfold yo Ye NS.refuse;by_cases h0:S.ref=0
 ·rw[am (.inl h0)];obtain ⟨a1,a2,a3,a4⟩:=a;unfold Ac.enc bJ Rp.enc;refine Qd (An @e1 @e8) ?_;refine Qb ?_ ?_<;>intro h1
  ·refine Qa ?_;refine Xd hn ?_;exact ⟨[],by exact Qi (An @mE (An @kO (An @dZ (An @Qz @Qt))))⟩
  ·omega
 ·unfold Kw at hR;rw[aa af,aa af]at hR;rw[aa af];have tq:=NS.SZ hw (S.ref - 1) 1 2;have cz:(S.ref:Int) - 1=((S.ref - 1:Nat):Int):=by omega
  obtain ⟨a1,a2,a3,a4⟩:=a;unfold Ac.enc Rp.enc;dsimp only at *
  refine Qd (An @e1 @e8) ?_;refine Qb ?_ ?_<;>intro h1
  ·omega
  refine Qd (An @e1 @e8) ?_;refine Qk hR (An @e1 @e8) ?_;refine Qd (An @e1 (An @e8 (An @cz @tq))) ?_;exact ⟨[],by (have aQ:=@mE;have bw:=@kO;have bQ:=@dZ;have cy:=@Qz;have dh:=@Qt;refine XG ?_;clear aQ bw bQ cy dh;((try with_reducible and_intros);all_goals try first|refine zm ?_|exact CL))<;>rfl⟩
def Xnf {l:List (Int×Fl)}(hd:l.Pairwise fun p q=>p.1≠q.1)  (hb:b<l.length):(l.filter fun r=>!(r.1==l[b].1))=l.take b++l.drop (b+1):=by
 have hs:l=l.take b++l[b]::l.drop (b+1):=by
  conv=>lhs;rw[<- List.take_append_drop b l,List.drop_eq_getElem_cons hb]
 have hp:=hd;rw[hs,List.pairwise_append,List.pairwise_cons]at hp;obtain ⟨_,⟨h2,_⟩,h3⟩:=hp
 conv=>lhs;arg 2;rw[hs]
 rw[List.filter_append,List.filter_cons,aa aw];congr 1
 ·refine List.filter_eq_self.2 fun q hq=>?_;simpa using h3 q hq _ (mem_cons_self)
 ·refine List.filter_eq_self.2 fun q hq=>?_;have:=h2 q hq;simpa using fun e=>this e.symm
def Yfw (S:NS)(b:Nat):(S.fl.take b++S.fl.drop (b+1)).map (fun q=>(⟨q.1,q.2.due.toNat⟩:Tm))=S.aX.take b++S.aX.drop (b+1):=by
 unfold NS.aX;rw[map_append,map_take,map_drop]
def Yd9 (x:NS×List Ev)(k:Int):(cN x k).1.fl=x.1.fl.filter fun r=>!(r.1==k):=by
 obtain ⟨tb,es,e,_⟩:=Xf5 x k;rw[e]
theorem Xx7 (S:NS)(d:Int):a6 (S.dT d 0).1.aX (S.now+d.toNat+1)=(S.ended d).drop 0:=rfl
def Xv8 {S:NS}(h:NI S){d:Int}(hd:¬ (d<1\/549755813888-S.now<d)){i b:Nat}(hi:a6 (S.dT d i).1.aX (S.now+d.toNat+1)=(S.ended d).drop i)(hb:b<(S.dT d i).1.fl.length){t:Tm}(ht:(S.dT d i).1.aX[b]?=some t)
  (iM:t.due<=S.now+d.toNat) (hl:∀ u ∈ (S.dT d i).1.aX,u.due<=S.now+d.toNat->j5 t u=true) :
  i<(S.ended d).length/\S.dT d (i+1)=GY (S.dT d i).1 (S.dT d i).2 (S.dT d i).1.fl[b]/\a6 (S.dT d (i+1)).1.aX (S.now+d.toNat+1)=(S.ended d).drop (i+1):=by
 have GF:=(GZ h hd i).nj;have hid:t.id=(S.dT d i).1.fl[b].1:=by
  unfold NS.aX at ht;rw[List.getElem?_map,List.getElem?_eq_getElem hb]at ht;simp only[Option.map_some,Option.some.injEq]at ht;rw[<- ht]
 obtain ⟨e1,_⟩:=Xsq ht iM hl;rw[hi]at e1;have hlt:i<(S.ended d).length:=by
  have:=congrArg List.length e1;simp at this;omega
 rw[List.drop_eq_getElem_cons hlt]at e1;obtain ⟨e2,e3⟩:=List.cons.inj e1;have hs:S.dT d (i+1)=cN (S.dT d i) (S.dT d i).1.fl[b].1:=by rw[Qx7 S d i hlt,e2,hid]
 refine ⟨hlt,?_,?_⟩
 ·rw[hs];exact Qth GF.dS (List.getElem_mem hb) _
 ·rw[e3];congr 1;show List.map _ (S.dT d (i+1)).1.fl=_;rw[hs,Yd9,Xnf GF.dS hb];exact Yfw _ _
def Xy6 {i:Nat}(hi:a6 (S.dT d i).1.aX (S.now+d.toNat+1)=(S.ended d).drop i)(hl:∀ u ∈ (S.dT d i).1.aX,S.now+d.toNat<u.due):S.dT d i=(S.ended d).foldl cN (S.later d,[]):=by
 rw[(Xpz hl).1]at hi;have:(S.ended d).length<=i:=List.drop_eq_nil_iff.1 hi.symm;unfold NS.dT;rw[List.take_of_length_le this]
def Yai (h:NI S)  (hd:¬ (d<1\/549755813888-S.now<d))(i:Nat){q:Int×Fl}(hq:q ∈ (S.dT d i).1.fl):0<=q.2.due/\q.2.due<=S.now+60:=by
 rw[(GZ h hd i).fl]at hq;have:=h.due q (List.mem_filter.1 hq).1;omega
def Yg6 (hd:S.fl.Pairwise fun p q=>p.1≠q.1)  (hb:b<S.fl.length):(S.cut S.fl[b].1).aI=S.aI.take b++S.aI.drop (b+1)/\(S.cut S.fl[b].1).keys=S.keys.take b++S.keys.drop (b+1)/\(S.cut S.fl[b].1).fl.length=S.fl.length-1:=by
 have e:(S.cut S.fl[b].1).fl=S.fl.take b++S.fl.drop (b+1):=Xnf hd hb;refine ⟨?_,?_,?_⟩
 ·unfold NS.aI;rw[e,map_append,map_take,map_drop]
 ·unfold NS.keys;rw[e,map_append,map_take,map_drop]
 ·rw[e,List.length_append,List.length_take,List.length_drop];omega
def Ya8 (b:Bool):GS Tryz.prog gl 26 [.bool b] [] 0 (.ptr 0 0) (Ye (NS.new b)) 3:=by
 have dJ:FT Tryz.prog 26 Tryz.f26 (aG Tryz.prog Tryz.f26) [.t 2]:=.of Tryz.func26;refine dJ.SE (ap rfl) fun c bf hg=>?_;subst hg
 conv in aG _ _=>cbv
 refine Qa ?_;refine (To.wkC (b:=0) (A:=zT) (x:=.nils) (y:=.isl 0 []) (B:=[.nils,.nils,.int .i64 0,.int .i64 0,.int .i64 0,.int .i64 4,.int .i64 0,.bool b]) rfl Wk.nils).trans ?_;refine (To.jS (b:=0) (j:=30) (es:=10) (cs:=zT++.isl 0 []::[.nils,.nils,.int .i64 0,.int .i64 0,.int .i64 0,.int .i64 4,.int .i64 0,.bool b]) rfl rfl rfl).trans ?_;refine (To.jS (b:=0) (j:=31) (es:=1) (cs:=zT++.isl 0 []::[.sl 10 1 0 0 0,.nils,.int .i64 0,.int .i64 0,.int .i64 0,.int .i64 4,.int .i64 0,.bool b]) rfl rfl rfl).trans ?_;exact To.gW 1 2 aJ aw rfl rfl rfl (by simp[Qr,Qe,look,aA])
end Go.Proofs.YtogckmommodmhaaGreatDoor
