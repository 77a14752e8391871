import Derived.Test.YtogckmommodmhaaGreatDoorZx18
import Derived.Test.YtogckmommodmhaaGreatDoorZx17
import Derived.Test.YtogckmommodmhaaGreatDoorZx12
namespace Go.Proofs.YtogckmommodmhaaGreatDoor
open List (mem_cons_self getElem_of_mem mem_map map_map map_append map_take map_drop)
open Go.RowKit
set_option linter.all false
set_option maxHeartbeats 32000000
set_option maxRecDepth 100000
def NS.uQ (S:NS)(f i:Nat):List AV:=[.sl 10 f 0 S.fl.length S.fl.length,.sl 1 i 0 S.fl.length S.fl.length,.int .i64 S.bH,.int .i64 S.now,.int .i64 S.told,.int .i64 S.ref,.int .i64 S.bm,.bool S.loose]
def NS.cR (S:NS)(f i:Nat):List AV:=S.tb.enc++S.uQ f i
def Xn (S:NS):List (Nat×Bk):=[(0,.cells (S.cR 1 2)),(1,.cells (bJ S.aA)),(2,.cells (Ql S.keys))]
section
variable {S:NS}{f i:Nat}
def NS.Bp (h:S.tb.wf):(S.cR f i).length=38:=by simp[NS.cR,NS.uQ,Tb.au h]
def NS.yx (h:S.tb.wf):(S.cR f i).take 30=S.tb.enc:=by
 unfold NS.cR;rw[<- Tb.au h,List.take_left]
def NS.fG (h:S.tb.wf)(j:Nat):(S.cR f i).getD (30+j) .any=(S.uQ f i).getD j .any:=by
 unfold NS.cR;rw[<- Tb.au h];simp[List.getD,List.getElem?_append_right]
def NS.gC (h:S.tb.wf)(j:Nat)(v:AV):(S.cR f i).set (30+j) v=S.tb.enc++(S.uQ f i).set j v:=by
 unfold NS.cR;rw[List.set_append,aa (by rw[Tb.au h];omega),Tb.au h,Nat.add_sub_cancel_left]
def NS.dI {n:Nat}(hf:f<n)(hi:i<n):ah n (S.cR f i):=by simp[NS.cR,NS.uQ,B7,Tb.bY,ah,Qe,hf,hi]
def NS.da (ρ:Nat->Nat):ay ρ (S.cR f i)=S.cR (ρ f) (ρ i):=by simp[NS.cR,NS.uQ,B6,Tb.dx,ay,aB]
end
structure RdR (S:NS)(f i:Nat):Prop where
 len:(S.cR f i).length=38
 tb:(S.cR f i).take 30=S.tb.enc
 r30:(S.cR f i).getD 30 .any=.sl 10 f 0 S.fl.length S.fl.length
 r31:(S.cR f i).getD 31 .any=.sl 1 i 0 S.fl.length S.fl.length
 r32:(S.cR f i).getD 32 .any=.int .i64 S.bH
 r33:(S.cR f i).getD 33 .any=.int .i64 S.now
 r34:(S.cR f i).getD 34 .any=.int .i64 S.told
 r35:(S.cR f i).getD 35 .any=.int .i64 S.ref
 r36:(S.cR f i).getD 36 .any=.int .i64 S.bm
 r37:(S.cR f i).getD 37 .any=.bool S.loose
variable {S:NS}{addr port side d:Int}{c:Fl->Bool}{b:Nat}{m:Mp}(gl:Nat->AV)(l:List Fl)(e:Int)
def NS.nU (h:S.tb.wf)(f i:Nat):RdR S f i:=⟨NS.Bp h,NS.yx h,NS.fG h 0,NS.fG h 1,NS.fG h 2,NS.fG h 3,NS.fG h 4,NS.fG h 5,NS.fG h 6,NS.fG h 7⟩
def Kg (S:NS):HL (Xn S) 3 where
 mem q hq:=by
  simp[Xn]at hq;rcases hq with rfl|rfl|rfl
  ·exact ⟨(by decide:0<3),NS.dI aJ aJ⟩
  ·exact ⟨(by decide:1<3),Kr 3 _⟩
  ·exact ⟨(by decide:2<3),by simp[bX,qM]⟩
 jV b hb:=by
  rcases (by omega:b=0\/b=1\/b=2) with rfl|rfl|rfl
  ·exact ⟨_,mem_cons_self,rfl⟩
  ·exact ⟨_,List.mem_cons_of_mem _ mem_cons_self,rfl⟩
  ·exact ⟨_,List.mem_cons_of_mem _ (List.mem_cons_of_mem _ mem_cons_self),rfl⟩
 self q hq:=by
  simp[Xn]at hq;rcases hq with rfl|rfl|rfl<;>rfl
def Bq (S:NS):∀ q ∈ Xn S,q.2.live:=(Kg S).lives
def Ml (S:NS):(Ql S.keys).length=S.fl.length:=uK S
def Mm (S:NS):(bJ S.aA).length=S.fl.length*10:=by rw[rO];simp[NS.aA]
def SX (ρ:Nat->Nat)(l:List Fl):Bk.cells (bJ l)=Qw ρ (.cells (bJ l)):=by simp[Qw,Xb]
def Qwv (ρ:Nat->Nat)(l:List Int):Bk.cells (Ql l)=Qw ρ (.cells (Ql l)):=by simp[Qw,Qu]
def To.ia {p:List Nat}{t t':List (Nat×AV)}{h:List (Nat×Bk)}{S:NS}{n:Nat}(f i:Nat)(hd:f≠0/\i≠0/\f≠i)(hp:∀ b ∈ p,b=0)(e0:Qb h n 0=.cells (S.cR f i))(e1:Qb h n f=.cells (bJ S.aA))(e2:Qb h n i=.cells (Ql S.keys))
  (ht:Qs (fun b=>if b=0 then 0 else if b=1 then f else i) 3 t t'):To p ⟨t,h,n⟩ ⟨t',Xn S,3⟩:=by
 obtain ⟨d1,d2,d3⟩:=hd;refine To.pQ _ (Kg S) (fun b hb=>by rw[hp b hb];exact ⟨rfl,by decide⟩) (fun b b' hb bL e=>?_) (fun b hb=>?_) ht
 ·rcases (by omega:b=0\/b=1\/b=2) with rfl|rfl|rfl<;>rcases (by omega:b'=0\/b'=1\/b'=2) with rfl|rfl|rfl<;>first|rfl|(simp at e;omega)
 ·rcases (by omega:b=0∨b=1∨b=2) with rfl|rfl|rfl
  ·show Qb h n 0=Qw _ (.cells (S.cR 1 2));rw[e0];simp[Qw,NS.da]
  ·show Qb h n f=Qw _ (.cells (bJ S.aA));rw[e1];exact SX _ _
  ·show Qb h n i=Qw _ (.cells (Ql S.keys));rw[e2];exact Qwv _ _
def NS.SY (h:S.tb.wf)(v f i:Nat):(S.cR f i).set 34 (.int .i64 v)=({ S with told:=v }:NS).cR f i:=NS.gC h 4 _
def Xdw (S:NS)(hw:S.tb.wf)(m9:S.told<=100000)(l:List Ev)(hl:l.length<=64)(ha:∀ e ∈ l,Je e.t e.s e.a e.b=true/\e.t=(l.headD ⟨0,0,0,0,false⟩).t) :
  GS Tryz.prog gl 112 [.ptr 0 0,.sl 5 3 0 l.length l.length] (Xn S++[(3,.cells (Xj l))]) 4 (.str (nP S.told l)) (Xn (S.log l)++[(3,.cells (Xj l))]) 4:=by
 have dA:FT Tryz.prog 112 Tryz.f112 (aG Tryz.prog Tryz.f112) [.t 4]:=.of Tryz.func112;refine dA.gs (ap rfl) (fun q hq=>?_) fun c hN hg=>?_
 ·rcases List.mem_append.1 hq with hq|hq
  ·exact Bq S q hq
  ·obtain rfl:=List.mem_singleton.1 hq;trivial
 conv in aG _ _=>cbv
 unfold Xn;obtain ⟨e1,e2,e3,e4,e5,e6,e7,e8,e9,Br⟩:=S.nU hw 1 2;have Ba:=Qvp c.gl 0;unfold Ug at Ba;rw[am af]at Ba;have mL:=fun S':NS=>NS.dI (S:=S') (n:=4) (by decide:1<4) (by decide:2<4);have kZ:=fun l=>Kr 4 l;refine Qa ?_;refine Qc ?_ ?_<;>intro h1;rotate_left
 ·obtain rfl:l=[]:=List.eq_nil_of_length_eq_zero af;rw[show S.log []=S from rfl,show nP S.told []=[] from rfl];refine Qa ?_;exact ⟨[],by exact Qi (An @mL @kZ)⟩
 cases l with
 | nil=>simp at h1
 | cons e l =>
  have hM:=Xbe c.gl S.told (e::l) (by simp at hl ⊢;omega);have bl:nN e.t (e::l)=true:=by
   unfold nN;rw[List.all_eq_true];intro x hx;obtain ⟨g1,g2⟩:=ha x hx;have g2:x.t=e.t:=g2;rw[g1,g2];simp
  have kN:¬ 64<l.length+1:=by simp at hl;omega
  unfold pR at hM;dsimp only at hM;rw[aa kN,am bl]at hM;unfold Ug at hM;rw[am af]at hM;have kf:=NS.SY hw (S.told+(e::l).length) 1 2;have dY:(S.told:Int)+((e::l).length:Nat)=((S.told+(e::l).length:Nat):Int):=by omega
  have lC:nP S.told (e::l)=(if S.told=0 then ki 0 0 2 (jA 6) else [])++ki S.told e.t 300 (Ut (e::l)):=rfl;have Gt:S.log (e::l)={ S with told:=S.told+(e::l).length }:=rfl;rw[lC,Gt];have hB:(Ut (e::l)).length<=1400:=by rw[A8];simp at hl ⊢;omega
  have hE:=fun n=>Uc n (e::l);have lG:∀ ρ,ay ρ (Xj (e::l))=Xj (e::l):=fun ρ=>Bk.cells.inj (Xer (x:=.cells (Xj (e::l))) (by simp[bX,Uc]));have eI:=fun (S:NS) (ρ:Nat->Nat)=>NS.da (S:=S) (f:=1) (i:=2) ρ;have hEl:=yf (e::l);have aK:((Xj (e::l)).drop 0).take ((e::l).length*5)=Xj (e::l):=by rw[List.drop_zero,List.take_of_length_le (by rw[hEl];exact Nat.le_refl _)]
  have ib:∀ x:List UInt8,Ji (.aR [.str x,.int .i64 0]):=fun x=>.aR (by simp[Ji.str,Ji.int]);generalize Ut (e::l)=B at *
  generalize Xj (e::l)=E at *
  generalize (e::l).length=k at *
  have Bb:(ki S.told e.t 300 B).length<=100000:=by
   simp[ki,Qk];omega
  generalize ki S.told e.t 300 B=MB at *
  have GV:(ki 0 0 2 (jA 6)).length<=100000:=by decide +kernel
  generalize ki 0 0 2 (jA 6)=TB at *
  by_cases hz:S.told=0
  ·rw[am hz];refine Qd (An @e1 @e7) ?_;refine Qc ?_ ?_<;>intro h2
   ·refine Qa ?_;refine Qj Ba (An @e1 @e7) ?_;refine Qd (An @e1 (An @e7 @aK)) ?_
    ((first|apply Wc|apply Jw)<;>(first|exact hM|(with_reducible exact ib _)|(have aQ:=@e1;have bu:=@e7;have bO:=@aK;have cy:=@hE;have dc:=@dY;have eT:=@kf;have gF:=@Bb;have nC:=@GV;refine XG ?_;clear aQ bu bO cy dc eT gF nC;first|exact rfl|exact True.intro|((try with_reducible and_intros);all_goals try first|refine zm ?_|exact CL))))
    refine Qd (An @e1 (An @e7 (An @dY (An @kf (An @Bb @GV))))) ?_;exact ⟨[],by (have aQ:=@mL;have bu:=@kZ;have bO:=@lG;have cy:=@eI;have dc:=@Xb;have eT:=@Qu;have gF:=@hE;refine XG ?_;clear aQ bu bO cy dc eT gF;((try with_reducible and_intros);all_goals try first|refine zm ?_|exact CL))<;>rfl⟩
   ·exact absurd hz af
  ·rw[aa hz];refine Qd (An @e1 @e7) ?_;refine Qc ?_ ?_<;>intro h2
   ·exact absurd h2 af
   ·refine Qd (An @e1 (An @e7 @aK)) ?_
    ((first|apply Wc|apply Jw)<;>(first|exact hM|(with_reducible exact ib _)|(have aQ:=@e1;have bu:=@e7;have bO:=@aK;have cy:=@hE;have dc:=@dY;have eT:=@kf;have gF:=@Bb;refine XG ?_;clear aQ bu bO cy dc eT gF;first|exact rfl|exact True.intro|((try with_reducible and_intros);all_goals try first|refine zm ?_|exact CL))))
    refine Qd (An @e1 (An @e7 (An @dY (An @kf @Bb)))) ?_;exact ⟨[],by (have aQ:=@mL;have bu:=@kZ;have bO:=@lG;have cy:=@eI;have dc:=@Xb;have eT:=@Qu;have gF:=@hE;refine XG ?_;clear aQ bu bO cy dc eT gF;((try with_reducible and_intros);all_goals try first|refine zm ?_|exact CL))<;>rfl⟩
def Ygn {p:Pk}  (h:Wf p side addr port=0):¬ (side<0\/side>1\/¬ (0<=addr/\addr<=4294967295)\/¬ (0<=port/\port<=65535))/\¬ p.aN=1/\¬ (p.ae=1/\¬ (side=0 ↔ p.flags=8)):=by
 unfold Wf at h;split at h
 ·cases h
 split at h
 ·cases h
 split at h
 ·cases h
 rename_i h1 h2 h3;exact ⟨h1,h2,h3⟩
def Qxc (f:List UInt8)(side addr port:Int)(hl:f.length<=140737488351232)(h:cH f=0)(ht:Wf (aC f) side addr port=0):PS Tryz.prog gl 115 [.str f,.int .i64 side,.int .i64 addr,.int .i64 port] (.aR [.str (Zw (ui (aC f) side addr port)),.int .i64 0]):=by
 have dA:FT Tryz.prog 115 Tryz.f115 (aG Tryz.prog Tryz.f115) [.t 8,.t 9]:=.of Tryz.func115;refine dA.ps (ap rfl) (by simp[Qe,ah]) fun c hN hg=>?_
 conv in aG _ _=>cbv
 obtain ⟨h1,h2,h3⟩:=Ygn ht;have nI:=Xbu (aC f) (Ds h).e side addr port ht;have hB:=Xri c.gl nI;have hP:=J9 c.gl f hl;unfold py at hP;rw[am h]at hP;obtain ⟨hp,hr⟩:=Sm h;have ko:=(Wj (Ds h).e).2.2.2;have hs:side=0\/side=1:=by omega
 clear nI ht;unfold ui at hB ⊢;generalize aC f=K at *
 obtain ⟨K1,K2,K3,K4,K5,K6,K7,K8,K9,K10,K11,K12⟩:=K;unfold Jl at hr;unfold Wo at ko;unfold Pk.enc at hB hP;dsimp only at *
 rcases hs with rfl|rfl
 ·rw[am rfl]at hB ⊢;dsimp only at hB ⊢;refine Qa ?_;refine Xc hP ?_;refine Yc ?_;refine Qa ?_;refine Qc ?_ ?_<;>intro h5
  ·omega
  refine Qa ?_;refine Qc ?_ ?_<;>intro h6
  ·omega
  refine Qa ?_;refine Qc ?_ ?_<;>intro h7
  ·exfalso;simp at h3;omega
  refine Qa ?_;refine Yc ?_;refine Qa ?_;exact Oc hB
 ·rw[aa aJ]at hB ⊢;dsimp only at hB ⊢;refine Qa ?_;refine Xc hP ?_;refine Yc ?_;refine Qa ?_;refine Qc ?_ ?_<;>intro h5
  ·omega
  refine Qa ?_;refine Qc ?_ ?_<;>intro h6
  ·omega
  refine Qa ?_;refine Qc ?_ ?_<;>intro h7
  ·exfalso;simp at h3;omega
  refine Qa ?_;refine Yc ?_;refine Qa ?_;exact Oc hB
def Xpq (p:aq)(hp:p.wf)(a:Int)(to:Bool):PS Tryz.prog gl 69 [.agg p.enc,.int .i64 a,.bool to] (Km (p.drain a to)):=by
 have dA:FT Tryz.prog 69 Tryz.f69 (aG Tryz.prog Tryz.f69) [.cell 6 (.ag 21),.t 7]:=.of Tryz.func69;refine dA.ps (ap rfl) (by simp[Qe,ah,Km,aq.bY]) fun c hN jS=>?_
 conv in aG _ _=>cbv
 have e2:=aq.au hp;by_cases ha:Kl a=true;rotate_left
 ·have hr:p.drain a to=(p,7):=aa ha;rw[hr];unfold Km;unfold Kl at ha;refine Qd @e2 ?_;refine Qc ?_ ?_<;>intro h1
  ·exact Qi @e2
  ·exact absurd (by simp;omega) ha
 obtain ⟨a,rfl,jG⟩:=Al a ha;have hd:=aq.iw hp jG;have nI:=Qyk p hp a to;have e3:=aq.au (p.lg hp a to);by_cases vO:p.lb a=to
 ·have hr:p.drain a to=(p,8):=(am ha).trans (am (by rw[Int.toNat_natCast];exact vO));rw[hr];rw[vO]at hd;unfold Km;refine Qd @e2 ?_;refine Qc ?_ ?_<;>intro h1
  ·omega
  refine Qd (An @e2 @hd) ?_;refine Yc ?_;exact Qi @e2
 ·have hr:p.drain a to=(p.oC a to,0):=(am ha).trans ((aa (by rw[Int.toNat_natCast];exact vO)).trans (by rw[Int.toNat_natCast]));rw[hr];unfold Km;generalize p.lb a=d at *
  refine Qd @e2 ?_;refine Qc ?_ ?_<;>intro h1
  ·omega
  refine Qd (An @e2 @hd) ?_;refine Qc ?_ ?_<;>intro h2
  ·exact (vO h2).elim
  exact Qi (An @e2 (An @nI @e3))
def NS.SZ (h:S.tb.wf)(v:Int)(f i:Nat):(S.cR f i).set 32 (.int .i64 v)=({ S with bH:=v }:NS).cR f i:=NS.gC h 2 _
def Qu8 (S:NS)(hS:NB S)(hn:S.bH<=100000)(h48:S.fl.length<=100)(f:Fl):GS Tryz.prog gl 113 [.ptr 0 0,.agg f.enc] (Xn S) 3 (.aR []) [(0,.cells ((S.begin f).cR 3 4)),(3,.cells (bJ (S.begin f).aA)),(4,.cells (Ql (S.begin f).keys))] 5:=by
 have dA:FT Tryz.prog 113 Tryz.f113 (aG Tryz.prog Tryz.f113) []:=.of Tryz.func113;refine dA.gs (ap rfl) (Bq S) fun c hN hg=>?_
 conv in aG _ _=>cbv
 have hw:=hS.wf;obtain ⟨e1,e2,e3,e4,e5,e6,e7,e8,e9,Br⟩:=S.nU hw 1 2;have hl:=Qy7 c.gl f.map.ae f.st;have L0:=GL f.map.ae f.st;have fe:=hS.now;have nK:=hS.lq;have S4:=NS.SZ hw (S.bH+1) 1 2;obtain ⟨g1,g2,g3,g4,g5,g6,g7,g8,g9,g10⟩:=({ S with bH:=S.bH+1 }:NS).nU hw 1 2;have ib:=Mm S;have fO:=Ml S;obtain ⟨⟨p0,p1,p2,p3,p4⟩,q0,q1,q2,q3,q4⟩:=f;unfold Xn Fl.enc Zj;dsimp only at hl L0 ⊢;have hsn:bJ S.aA++[.int .i64 p0,.int .i64 p1,.int .i64 p2,.int .i64 p3,.int .i64 p4,.int .i64 q0,.int .i64 q1,.int .i64 q2,.int .i64 q3,.int .i64 ((S.now:Int)+Yw p0 q2)]=bJ (S.begin ⟨⟨p0,p1,p2,p3,p4⟩,q0,q1,q2,q3,q4⟩).aA:=by
  simp[NS.aA,NS.begin,bJ,Fl.enc,Zj]
 have bg:Ql S.keys++[.int .i64 (S.bH+1)]=Ql (S.begin ⟨⟨p0,p1,p2,p3,p4⟩,q0,q1,q2,q3,q4⟩).keys:=by
  simp[NS.keys,NS.begin,Ql]
 have b9:∀ f i,S.tb.enc++[.sl 10 f 0 (S.fl.length+1) (S.fl.length+1),.sl 1 i 0 (S.fl.length+1) (S.fl.length+1),.int .i64 (S.bH+1),.int .i64 S.now,.int .i64 S.told,.int .i64 S.ref,.int .i64 S.bm,.bool S.loose]=(S.begin ⟨⟨p0,p1,p2,p3,p4⟩,q0,q1,q2,q3,q4⟩).cR f i:=fun f i=>by
  simp[NS.cR,NS.uQ,NS.begin]
 have aE:=Tb.au hw;have h30:∀ v,(({ S with bH:=S.bH+1 }:NS).cR 1 2).set 30 v=S.tb.enc++[v,.sl 1 2 0 S.fl.length S.fl.length,.int .i64 (S.bH+1),.int .i64 S.now,.int .i64 S.told,.int .i64 S.ref,.int .i64 S.bm,.bool S.loose]:=fun v=>NS.gC (S:={ S with bH:=S.bH+1 }) hw 0 v;have h31:∀ v w,(S.tb.enc++[v,.sl 1 2 0 S.fl.length S.fl.length,.int .i64 (S.bH+1),.int .i64 S.now,.int .i64 S.told,.int .i64 S.ref,.int .i64 S.bm,.bool S.loose]).set 31 w=S.tb.enc++[v,w,.int .i64 (S.bH+1),.int .i64 S.now,.int .i64 S.told,.int .i64 S.ref,.int .i64 S.bm,.bool S.loose]:=fun v w=>by
  rw[List.set_append,aa (by rw[aE];decide),aE];rfl
 have S5:∀ v,(S.tb.enc++[v,.sl 1 2 0 S.fl.length S.fl.length,.int .i64 (S.bH+1),.int .i64 S.now,.int .i64 S.told,.int .i64 S.ref,.int .i64 S.bm,AV.bool S.loose]).length=38:=fun v=>by simp[aE]
 generalize S.begin ⟨⟨p0,p1,p2,p3,p4⟩,q0,q1,q2,q3,q4⟩=S' at *
 refine Qd (An @e1 @e6) ?_;refine Qj hl (An @e1 (An @e5 (An @e6 (An @S4 (An @g1 @g3))))) ?_;refine Ke ?_;refine Yp (An @ib (An @hsn (An @g1 (An @g4 @g5)))) ?_;refine Yp @g1 ?_;refine Yp (An @fO (An @bg (An @g1 (An @h30 (An @h31 (An @S5 @b9)))))) ?_;have Hu:ah 5 (S'.cR 3 4):=NS.dI aJ aJ;have eI:=fun ρ=>NS.da (S:=S') (f:=3) (i:=4) ρ;have jB:=fun l=>Kr 5 l;exact ⟨[(3,5),(4,7)],by exact Qi (An @Hu (An @eI (An @jB (An @Xb @Qu))))⟩
def Wv (g:Fl->Fl)(l:List Fl)(i:Nat):List Fl:=(l.take i).map g++l.drop i
section
variable {g:Fl->Fl}{l:List Fl}{i:Nat}
def Qu5:Wv g l 0=l:=by simp[Wv]
def Qwj:Wv g l l.length=l.map g:=by simp[Wv]
def yy:(Wv g l i).length=l.length:=by simp[Wv];omega
def S6 (hi:i<=l.length)(j:Nat):(Wv g l i)[j]?=if j<i then (l[j]?).map g else l[j]?:=by
 unfold Wv;rw[List.getElem?_append];simp only[List.length_map,List.length_take,Nat.min_eq_left hi];split
 ·rw[List.getElem?_map,List.getElem?_take,am (by assumption)]
 ·rw[List.getElem?_drop];congr 1;omega
def S7 (h:i<l.length):(Wv g l i)[i]'(by rw[yy];exact h)=l[i]:=by
 have e:(Wv g l i)[i]?=some l[i]:=by rw[S6 (Nat.le_of_lt h),aa (Nat.lt_irrefl i),List.getElem?_eq_getElem h]
 obtain ⟨_,e2⟩:=List.getElem?_eq_some_iff.1 e;exact e2
def S8 (h:i<l.length):(Wv g l i).set i (g l[i])=Wv g l (i+1):=by
 refine List.ext_getElem? fun j=>?_;rw[S6 (by omega:i+1<=l.length),List.getElem?_set,S6 (Nat.le_of_lt h)];by_cases e:i=j
 ·subst e;simp[yy,h]
 ·rw[aa e];by_cases hlt:j < i
  ·rw[am hlt,am af]
  ·rw[aa hlt,aa af]
def Qu6 (h:i<l.length)(e:g l[i]=l[i]):Wv g l (i+1)=Wv g l i:=by
 rw[<- S8 h,e]
 conv=>lhs;rw[<- S7 (g:=g) h]
 exact List.set_getElem_self _
end
def Xei (i:Nat)(h:i<l.length)(x:Fl):Ym (bJ l) (i*10) x.enc=bJ (l.set i x):=by
 have he:x.enc.length=10:=rfl;unfold Ym;rw[he]
 induction l generalizing i with
 | nil=>simp at h
 | cons a l ih =>
  have ha:a.enc.length=10:=rfl;cases i with
  | zero =>
   show (a.enc++bJ l).take (0*10)++x.enc++(a.enc++bJ l).drop (0*10+10)=x.enc++bJ l;rw[show (0*10+10)=a.enc.length from rfl,List.drop_left];simp
  | succ i =>
   have:=ih i (by simpa using h);show (a.enc++bJ l).take ((i+1)*10)++x.enc++(a.enc++bJ l).drop ((i+1)*10+10)=a.enc++bJ (l.set i x);rw[<- this,show (i+1)*10=a.enc.length+i*10 by rw[ha];omega,List.take_length_add_append,show a.enc.length+i*10+10=a.enc.length+(i*10+10) by omega,List.drop_length_add_append];simp
def oS (c:Fl->Bool)(p:Pk)(bn:Bool)(now:Int)(q:Fl):Fl:=if c q=true then q.next p bn now else q
def Mn (S:NS)(c:Fl->Bool)(m:Mp)(r rp:Int):Prop:=∀ q ∈ S.fl,c q.2=true ↔ q.2.map=m/\q.2.rem=r/\q.2.rport=rp
def Ygh (h:NJ S){p q:Int×Fl}(hp:p ∈ S.fl)(hq:q ∈ S.fl)(ha:Ya2 p q):p=q:=by
 obtain ⟨i,hi,rfl⟩:=getElem_of_mem hp;obtain ⟨j,hj,rfl⟩:=getElem_of_mem hq;have hu:=List.pairwise_iff_getElem.1 h.rJ;rcases Nat.lt_trichotomy i j with h1|h1|h1
 ·exact (hu i j hi hj h1 ha).elim
 ·subst h1;rfl
 ·exact (hu j i hj hi h1 ⟨ha.1.symm,ha.2.1.symm,ha.2.2.symm⟩).elim
def Yfl (h:NJ S){p q:Int×Fl}(hp:p ∈ S.fl)(hq:q ∈ S.fl)(ha:p.1=q.1):p=q:=by
 obtain ⟨i,hi,rfl⟩:=getElem_of_mem hp;obtain ⟨j,hj,rfl⟩:=getElem_of_mem hq;have hu:=List.pairwise_iff_getElem.1 h.c4;rcases Nat.lt_trichotomy i j with h1|h1|h1
 ·exact (hu i j hi hj h1 ha).elim
 ·subst h1;rfl
 ·exact (hu j i hj hi h1 ha.symm).elim
def Xem (h1:∀ q ∈ S.fl,c q.2=false):(∀ p bn now,S.aA.map (oS c p bn now)=S.aA)/\S.aA.any c=false:=by
 refine ⟨fun p bn now=>?_,?_⟩
 ·conv=>rhs;rw[← List.map_id S.aA]
  refine List.map_congr_left fun q hq=>?_;obtain ⟨x,hx,rfl⟩:=mem_map.1 hq;unfold oS;rw[h1 x hx];rfl
 ·rw[List.any_eq_false];intro q hq;obtain ⟨x,hx,rfl⟩:=mem_map.1 hq;rw[h1 x hx];simp
def Qsv (h:NJ S)   {r rp:Int}(hc:Mn S c m r rp)(h0:S.findF m r rp=0):(∀ p bn now,S.aA.map (oS c p bn now)=S.aA)/\S.aA.any c=false:=by
 have br:=R6 (NI.Be h) h0;refine Xem fun q hq=>?_;cases e:c q.2 with
 | false=>rfl
 | true=>exact (br q hq ((hc q hq).1 e)).elim
def Qu4 (h:NJ S)   {r rp:Int}(hc:Mn S c m r rp)(h0:S.findF m r rp≠0)(p:Pk)(bn:Bool):S.aA.map (oS c p bn S.now)=(S.goes (S.findF m r rp) p bn).aA/\S.aA.any c=true:=by
 obtain ⟨x,hx,e,a1,a2,a3⟩:=G0 h0;refine ⟨?_,?_⟩
 ·show (S.fl.map Prod.snd).map (oS c p bn S.now)=(S.fl.map fun q=>if q.1=S.findF m r rp then (q.1,q.2.next p bn S.now) else q).map Prod.snd;rw[map_map,map_map];refine List.map_congr_left fun q hq=>?_;show oS c p bn S.now q.2=(if q.1=S.findF m r rp then (q.1,q.2.next p bn S.now) else q).2;rw[e];unfold oS;by_cases hk:q.1=x.1
  ·obtain rfl:=Yfl h hq hx hk;rw[am rfl,am ((hc q hq).2 ⟨a1,a2,a3⟩)]
  ·rw[aa hk,aa];intro Hv;obtain ⟨b1,b2,b3⟩:=(hc q hq).1 Hv;exact hk (congrArg Prod.fst (Ygh h hq hx ⟨b1.trans a1.symm,b2.trans a2.symm,b3.trans a3.symm⟩))
 ·rw[List.any_eq_true];exact ⟨x.2,mem_map.2 ⟨x,hx,rfl⟩,(hc x hx).2 ⟨a1,a2,a3⟩⟩
def Mo {l:List Fl}{i:Nat}(h:i<l.length)(c:Fl->Bool):(l.take (i+1)).any c=((l.take i).any c||c l[i]):=by
 have e:l.take (i+1)=l.take i++[l[i]]:=by rw[List.take_succ,List.getElem?_eq_getElem h];rfl
 rw[e,List.any_append];simp
def Qo8 {f:List UInt8}  (h:cH f=0)(ht:Wf (aC f) side addr port=0)(hq:port≠0\/Hf (aC f) side≠65535):Wx f side addr port=Zw (ui (aC f) side addr port):=by
 unfold Wx;rw[aa (by rw[h];simp),aa (by rw[ht];simp),Xq7 h ht hq]
def qU (p:Pk)(s:Int)(q:Fl):Bool:=q.map.s==s&&q.map.ae==p.ae&&q.map.aH==p.aj&&q.rem==p.dst&&q.rport==p.aw
def Qzs {p:Pk}{s:Int}{q:Fl}:qU p s q=true ↔ Ya p.ae s p.aj q.map=true/\q.rem=p.dst/\q.rport=p.aw:=by
 simp only[qU,Ya,Bool.and_eq_true,beq_iff_eq];constructor
 ·rintro ⟨⟨⟨⟨a,b⟩,c⟩,d⟩,e⟩;exact ⟨⟨⟨b,a⟩,c⟩,d,e⟩
 ·rintro ⟨⟨⟨b,a⟩,c⟩,d,e⟩;exact ⟨⟨⟨⟨a,b⟩,c⟩,d⟩,e⟩
def Xzb (hS:NJ S)(p:Pk):∃ m,(∀ q ∈ S.fl,qU p (p.aF-167772161) q.2=true->q.2.map=m) /\
  ((S.c5 p=0∧(∀ bn now,S.aA.map (oS (qU p (p.aF - 167772161)) p bn now)=S.aA)∧S.aA.any (qU p (p.aF - 167772161))=false) ∨
   (S.c5 p≠0/\S.fwd p=some m/\S.aA.map (oS (qU p (p.aF-167772161)) p false S.now)=(S.goes (S.c5 p) p false).aA/\S.aA.any (qU p (p.aF-167772161))=true)):=by
 have yn:∀ q ∈ S.fl,Ya p.ae (p.aF-167772161) p.aj q.2.map=true->S.fwd p=some q.2.map:=fun q hq h=>by
  have:=hS.gt.fwd (hS.kB q hq);simp only[Ya,Bool.and_eq_true,beq_iff_eq]at h;rw[h.1.1,h.1.2,h.2]at this;exact this
 cases h:S.fwd p with
 | none =>
  have br:∀ q ∈ S.fl,qU p (p.aF-167772161) q.2=false:=fun q hq=>by
   cases e:qU p (p.aF-167772161) q.2 with
   | false=>rfl
   | true=>exact absurd (h.symm.trans (yn q hq (Qzs.1 e).1)) av
  obtain ⟨a,b⟩:=Xem br;exact ⟨cQ,fun q hq e=>absurd (e.symm.trans (br q hq)) av,.inl ⟨by unfold NS.c5;rw[h],a p,b⟩⟩
 | some m =>
  have hk:S.c5 p=S.findF m p.dst p.aw:=by unfold NS.c5;rw[h]
  have hm:Ya p.ae (p.aF-167772161) p.aj m=true:=List.find?_some h;have hH:Mn S (qU p (p.aF-167772161)) m p.dst p.aw:=fun q hq=>by
   rw[Qzs];refine and_congr_left fun _=>⟨fun e=>?_,fun e=>by rw[e];exact hm⟩
   exact (Option.some.inj (h.symm.trans (yn q hq e))).symm
  refine ⟨m,fun q hq e=>((hH q hq).1 e).1,?_⟩;rw[hk];by_cases h0:S.findF m p.dst p.aw=0
  ·obtain ⟨a,b⟩:=Qsv hS hH h0;exact .inl ⟨h0,a p,b⟩
  ·obtain ⟨a,b⟩:=Qu4 hS hH h0 p false;exact .inr ⟨h0,rfl,a,b⟩
def Yd3:PS Tryz.prog gl 116 [.int .i64 e] (.agg [.int .i64 e,.str [],.bool false,.str []]):=by
 have dA:FT Tryz.prog 116 Tryz.f116 (aG Tryz.prog Tryz.f116) [.cell 2 (.ag 4)]:=.of Tryz.func116;refine dA.ps (ap rfl) (by simp[Qe,ah]) fun c hN hg=>?_
 conv in aG _ _=>cbv
 exact Qp
def Xee (S:NS)(k:Int)(p:Pk)(bn:Bool)(f i:Nat):(S.goes k p bn).cR f i=S.cR f i:=by
 have e:(S.goes k p bn).fl.length=S.fl.length:=by simp[NS.goes]
 unfold NS.cR NS.uQ;rw[e];rfl
def oT (m:Mp)(r rp:Int)(q:Fl):Bool:=decide (q.map=m)&&q.rem==r&&q.rport==rp
def yz (m:Mp)(r:Int)(q:Fl):Bool:=decide (q.map=m)&&q.rem==r
def Xw9 (S:NS)(m:Mp)(r rp:Int):Mn S (oT m r rp) m r rp:=fun q _=>by simp[oT,and_assoc]
def Xmg (S:NS)(hS:NI S)(nK:S.bH<=100000)(f:List UInt8)(hf:f.length<=140737488351232) :
  GD Tryz.prog gl 67 [.ptr 0 0,.str f] (Xn S) 3 [0] (.agg (S.aH f).1.enc) (Xn (S.aH f).2):=by
 have dA:FT Tryz.prog 67 Tryz.f67 (aG Tryz.prog Tryz.f67) [.cell 4 (.ag 4)]:=.of Tryz.func67;obtain ⟨x,hx⟩:∃ x,S.aH f=x:=⟨_,rfl⟩
 rw[hx];refine dA.gq (ap rfl) (Bq S) av fun c bf hg=>?_;subst hg
 conv in aG _ _=>cbv
 have hw:=hS.wf;obtain ⟨e1,e2,e3,e4,e5,e6,e7,e8,e9,Br⟩:=S.nU hw 1 2;have Bi:=hS.len;have hP:=J9 c.gl f hf;have br:∀ e,kS Tryz.prog c .cC [.cl 116 [],.int .i64 e] (.agg [.int .i64 e,.str [],.bool false,.str []]):=fun e=>Jr (caps:=[]) (Yd3 c.gl e) (by simp[ah,Qe]);obtain ⟨Z1,rL,rk⟩:∃ Z:Int,(3405803777:Int)=Z/\0<=Z/\Z<=4294967296:=⟨_,rfl,by decide,by decide⟩
 obtain ⟨Z2,uM,cI⟩:∃ Z:Int,(167772161:Int)=Z/\0<=Z/\Z<=4294967296:=⟨_,rfl,by decide,by decide⟩
 rw[rL,uM];obtain ⟨p,e,pD,yq,vD⟩:=L7 f;rw[pD]at hP;rw[Sr]at hx;obtain ⟨p1,p2,p3,p4,p5,p6,p7,p8,p9,dh,di,pb⟩:=p;unfold Pk.enc at hP;unfold Xn;dsimp only at hP;refine Qa ?_;refine Xc hP ?_;refine Qa ?_;refine Qc ?_ ?_<;>intro h1
 ·have he:=vD h1;subst he;rw[am h1]at hx;subst hx;have hn:=br (cH f);unfold bN Rp.enc;refine Qa ?_;refine Xc hn ?_;exact ⟨(),To.ia 1 2 (by decide) (by simp) rfl (by first|rfl|(rw[hF];rfl)) rfl (by simp[Qs,Qe,ah,look,aB,ay])⟩
 obtain ⟨he,hp,sD,oP⟩:=yq h1;have ko:=(Wj (Ds he).e).2.2.2;rw[aa (by rw[he];simp)]at hx;rw[hp]at hx ko;unfold Jl at oP;unfold Wo at ko;dsimp only at hx sD oP ko;refine Qa ?_;refine Qc ?_ ?_<;>intro h2
 ·rw[am af]at hx;subst hx;have hn:=br 7;unfold bN Rp.enc;refine Qa ?_;refine Xc hn ?_;exact ⟨(),To.ia 1 2 (by decide) (by simp) rfl (by first|rfl|(rw[hF];rfl)) rfl (by simp[Qs,Qe,ah,look,aB,ay])⟩
 rw[aa af]at hx;refine Qa ?_;refine Qc ?_ ?_<;>intro h3
 ·rw[am af]at hx;subst hx;have hn:=br 4;unfold bN Rp.enc;refine Qa ?_;refine Xc hn ?_;exact ⟨(),To.ia 1 2 (by decide) (by simp) rfl (by first|rfl|(rw[hF];rfl)) rfl (by simp[Qs,Qe,ah,look,aB,ay])⟩
 rw[aa af]at hx;refine Qa ?_;refine Qc ?_ ?_<;>intro h4
 ·rw[am af]at hx;subst hx;have hn:=br 12;unfold bN Rp.enc;refine Qa ?_;refine Xc hn ?_;exact ⟨(),To.ia 1 2 (by decide) (by simp) rfl (by first|rfl|(rw[hF];rfl)) rfl (by simp[Qs,Qe,ah,look,aB,ay])⟩
 rw[aa af]at hx;have gW:=Qwq c.gl S.tb hw (by have:=uz (Kb.2 hS.gt);omega) p1 (p4-Z1) p5;rw[show p4-3405803777=p4-Z1 by omega]at hx;refine Qd (An @e1 @e2) ?_;cases hm:S.tb.maps.find? (Jd p1 (p4-Z1) p5) with
 | none =>
  rw[hm]at gW hx;unfold gu at gW;dsimp only at gW hx;rw[show cQ.enc=[.int .i64 0,.int .i64 0,.int .i64 0,.int .i64 0,.int .i64 0] from rfl]at gW;refine Qj gW (An @e1 @e2) ?_;refine Yc ?_;subst hx;have hn:=br 7;unfold bN Rp.enc;refine Qa ?_;refine Xc hn ?_;exact ⟨(),To.ia 1 2 (by decide) (by simp) rfl (by first|rfl|(rw[hF];rfl)) rfl (by simp[Qs,Qe,ah,look,aB,ay])⟩
 | some m =>
  rw[hm]at gW hx;unfold gu at gW;dsimp only at gW hx;have nd:=hS.gt.wK (List.mem_of_find?_eq_some hm);have Ta:m.port=p5:=by
   have iU:=List.find?_some hm;simp only[Jd,Bool.and_eq_true,beq_iff_eq]at iU;exact iU.2
  have hH:=Xw9 S m p2 p3;have Tc:=Qsv hS.toNJ hH;have Td:=fun h=>Qu4 hS.toNJ hH h ⟨p1,p2,p3,p4,p5,p6,p7,p8,p9,dh,di,pb⟩ true;have Te:S.aA.any (yz m p2)=S.fl.any fun q=>decide (q.2.map=m)&&q.2.rem==p2:=by
   unfold NS.aA;rw[List.any_map];rfl
  rw[<- Te]at hx;have Tf:∀ q:Fl,oT m p2 p3 q=true->oS (oT m p2 p3) ⟨p1,p2,p3,p4,p5,p6,p7,p8,p9,dh,di,pb⟩ true S.now q=q.next ⟨p1,p2,p3,p4,p5,p6,p7,p8,p9,dh,di,pb⟩ true S.now:=fun q h=>am h;have Tg:∀ q:Fl,oT m p2 p3 q=false->oS (oT m p2 p3) ⟨p1,p2,p3,p4,p5,p6,p7,p8,p9,dh,di,pb⟩ true S.now q=q:=fun q h=>aa (by rw[h];simp);have yA:S.aA.length=S.fl.length:=by simp[NS.aA]
  have zia:=Mm S;have jN:ah 6 (S.cR 1 2):=NS.dI aJ aJ;have eI:=fun ρ=>NS.da (S:=S) (f:=1) (i:=2) ρ;have jB:=fun l=>Kr 6 l;generalize hg:oS (oT m p2 p3) ⟨p1,p2,p3,p4,p5,p6,p7,p8,p9,dh,di,pb⟩ true S.now=g at *
  generalize hF:S.aA=F at *
  have fT:Wv g F 0=F:=Qu5;obtain ⟨mp,ms,mi,ma,mt⟩:=m;unfold Mp.enc at gW;dsimp only at gW nd Ta;refine Qj gW (An @e1 (An @e2 (An @e3 @Br))) ?_;refine Yc ?_;refine Qd (An @e1 (An @e3 @Br)) ?_
  refine Yn (fun i:Nat=>i≤S.fl.length) (fun i=>⟨[(0,.ptr 0 0),(1,.str f),(4,.ptr 3 0),(5,.cl 116 []),(6,.ptr 4 0),(8,.int .i64 (p4 - Z1)),(9,.ptr 5 0),(11,.bool (S.loose || (F.take i).any (yz ⟨mp,ms,mi,ma,mt⟩ p2))),(12,.bool ((F.take i).any (oT ⟨mp,ms,mi,ma,mt⟩ p2 p3))),(77,.sl 10 1 0 S.fl.length S.fl.length),(78,.int .i64 S.fl.length),(79,.int .i64 i)],
   [(5,.cells [.int .i64 mp,.int .i64 ms,.int .i64 mi,.int .i64 ma,.int .i64 mt]),(4,.cells [.int .i64 p1,.int .i64 p2,.int .i64 p3,.int .i64 p4,.int .i64 p5,.int .i64 p6,.int .i64 p7,.int .i64 p8,.int .i64 p9,.int .i64 dh,.int .i64 di,.str pb]),(3,.cells [.int .i64 0,.str [],.bool false,.str []]),(0,.cells (S.cR 1 2)),(1,.cells (bJ (Wv g F i))),(2,.cells (Ql S.keys))],6⟩) (fun i=>S.fl.length-i) dA.mixed [0] bf
   ⟨0,Nat.zero_le _,To.sub (ρ:=[]) rfl ?_⟩ fun i hi=>?_
  ·exact Qi (An @fT (An @List.any_nil.{0} (An @jN (An @eI (An @jB (An @Xb @Qu))))))
  refine Qa ?_;refine Qc ?_ ?_<;>intro h6
  ·have aL:i < F.length:=by omega
   have uR:(bJ (Wv g F i)).length=S.fl.length*10:=by rw[rO,yy,yA]
   have aK:((bJ (Wv g F i)).drop (i*10)).take 10=F[i].enc:=by rw[Du _ i (by rw[yy];exact aL),S7 aL]
   have bw:Ym (bJ (Wv g F i)) (i*10) (g F[i]).enc=bJ (Wv g F (i+1)):=by rw[Xei _ _ (by rw[yy];exact aL),S8 aL]
   have cX:=Qu6 (g:=g) aL;have tN:=Mo aL (yz ⟨mp,ms,mi,ma,mt⟩ p2);have nv:=Mo aL (oT ⟨mp,ms,mi,ma,mt⟩ p2 p3);have ep:=Tf F[i];have Mq:=Tg F[i];generalize F[i]=q at *
   obtain ⟨⟨q0,q1,q2,q3,q4⟩,k0,k1,k2,k3,k4⟩:=q;have C8:=@xL c true ⟨q0,q1,q2,q3,q4⟩ ⟨mp,ms,mi,ma,mt⟩;unfold Fl.enc Zj at aK;unfold Mp.enc at C8;dsimp only at aK C8;refine Qd (An @uR @aK) ?_;refine Qj C8 (An @uR @aK) ?_;refine Qc ?_ ?_<;>intro h7
   ·have iD:yz ⟨mp,ms,mi,ma,mt⟩ p2 ⟨⟨q0,q1,q2,q3,q4⟩,k0,k1,k2,k3,k4⟩=false:=by
     unfold yz;rw[Bool.and_eq_false_iff,decide_eq_false_iff_not,beq_eq_false_iff_ne];exact h7
    have ny:oT ⟨mp,ms,mi,ma,mt⟩ p2 p3 ⟨⟨q0,q1,q2,q3,q4⟩,k0,k1,k2,k3,k4⟩=false:=by
     unfold oT;rw[Bool.and_eq_false_iff,Bool.and_eq_false_iff,decide_eq_false_iff_not,beq_eq_false_iff_ne];exact .inl h7
    rw[iD,Bool.or_false]at tN;rw[ny,Bool.or_false]at nv;have uB:=cX (Mq ny);refine Qa ?_;refine ⟨i+1,by omega,To.sub (ρ:=[]) rfl ?_,by omega⟩;exact Qi (An @tN (An @nv (An @uB (An @jN (An @eI (An @jB (An @Xb @Qu)))))))
   ·obtain ⟨rS,xm⟩:=h7;have iD:yz ⟨mp,ms,mi,ma,mt⟩ p2 ⟨⟨q0,q1,q2,q3,q4⟩,k0,k1,k2,k3,k4⟩=true:=by
     unfold yz;rw[Bool.and_eq_true,decide_eq_true_eq,beq_iff_eq];exact ⟨rS,xm⟩
    rw[iD,Bool.or_true]at tN;have pF:=Qy6 c.gl q0 q1 q2 q3 q4 k0 k1 k2 k3 k4 p1 p2 p3 p4 p5 p6 p7 p8 p9 dh di pb true S.now af;refine Qa ?_;refine Qc ?_ ?_<;>intro h8
    ·have ny:oT ⟨mp,ms,mi,ma,mt⟩ p2 p3 ⟨⟨q0,q1,q2,q3,q4⟩,k0,k1,k2,k3,k4⟩=true:=by
      unfold oT;rw[Bool.and_eq_true,Bool.and_eq_true,decide_eq_true_eq,beq_iff_eq,beq_iff_eq];exact ⟨⟨rS,xm⟩,h8⟩
     rw[ny,Bool.or_true]at nv;rw[ep ny]at bw;unfold Fl.next Fl.enc at bw;unfold Zj at bw pF;dsimp only at bw pF;generalize Ur q0 k2 k3 k4 p8 true S.now=N at *
     obtain ⟨N1,N2,N3⟩:=N;dsimp only at bw pF;refine Qd (An @e1 (An @e3 @e6)) ?_;refine Qj pF (An @e1 (An @e3 @e6)) ?_;refine Qd (An @uR @bw) ?_;refine ⟨i+1,by omega,To.sub (ρ:=[]) rfl ?_,by omega⟩;exact Qi (An @tN (An @nv (An @jN (An @eI (An @jB (An @Xb @Qu))))))
    ·have ny:oT ⟨mp,ms,mi,ma,mt⟩ p2 p3 ⟨⟨q0,q1,q2,q3,q4⟩,k0,k1,k2,k3,k4⟩=false:=by
      unfold oT;rw[Bool.and_eq_false_iff,beq_eq_false_iff_ne];exact .inr h8
     rw[ny,Bool.or_false]at nv;have uB:=cX (Mq ny);refine Qa ?_;refine ⟨i+1,by omega,To.sub (ρ:=[]) rfl ?_,by omega⟩;exact Qi (An @tN (An @nv (An @uB (An @jN (An @eI (An @jB (An @Xb @Qu)))))))
  ·obtain rfl:i=S.fl.length:=by omega
   have bl:Wv g F S.fl.length=F.map g:=by rw[<- yA,Qwj]
   have nf:F.take S.fl.length=F:=by rw[<- yA,List.take_length]
   rw[bl,nf];clear bl nf;have lQ:=nd.a;have lR:=nd.aH;have Ae:=nd.s;have hm4:=nd.port;dsimp only at lQ lR Ae hm4;rw[uM]at hx;have te:Wf (aC f) 1 (Z2+ms) mi=0:=by
    rw[hp];unfold Wf;dsimp only;rw[aa af,aa h4,aa af]
   have hq:Hf (aC f) 1≠65535:=by
    rw[hp];unfold Hf;rw[aa aJ];dsimp only;omega
   have hT:=Qxc c.gl f 1 (Z2+ms) mi hf he te;rw[Qo8 he te (.inr hq)]at hx;generalize Zw (ui (aC f) 1 (Z2+ms) mi)=G at *
   by_cases h0:S.findF ⟨mp,ms,mi,ma,mt⟩ p2 p3=0
   ·rw[aa (by rw[h0];simp)]at hx;obtain ⟨k1,k2⟩:=Tc h0;have k3:F.map g=F:=by rw[← hg];exact k1 _ _ _
    rw[k3,k2];generalize F.any (yz ⟨mp,ms,mi,ma,mt⟩ p2)=B at *
    refine Qd (An @e1 @e3) ?_;refine Yc ?_;cases hL:(S.loose||B) with
    | false =>
     rw[am (by simpa using hL)]at hx;subst hx
     (have aQ:=@e1;have bu:=@e3;refine XG ?_;clear aQ bu;((try with_reducible and_intros);all_goals try first|refine zm ?_|exact CL))
     any_goals (intro h;cases h;done)
     refine Yc ?_;have hn:=br 11;unfold bN Rp.enc;refine Qa ?_;refine Xc hn ?_;exact ⟨(),To.ia 1 2 (by decide) (by simp) rfl (by first|rfl|(rw[hF];rfl)) rfl (by simp[Qs,Qe,ah,look,aB,ay])⟩
    | true =>
     rw[aa (by intro h;rw[h.1,h.2]at hL;cases hL)]at hx;by_cases c1:p1=17
     ·have f1:(p1 != 17)=false:=by rw[c1];rfl
      by_cases c2:S.fl.length=48
      ·rw[am (.inr af)]at hx;subst hx;refine Qd (An @e1 (An @e3 @f1)) ?_;refine Qc ?_ ?_<;>intro h9
       ·have hn:=br 11;unfold bN Rp.enc;refine Qa ?_;refine Xc hn ?_;exact ⟨(),To.ia 1 2 (by decide) (by simp) rfl (by first|rfl|(rw[hF];rfl)) rfl (by simp[Qs,Qe,ah,look,aB,ay])⟩
       ·exact absurd c2 af
      ·rw[aa af]at hx;subst hx;have jl:=Qu8 c.gl S hS.toNJ.nb nK af ⟨⟨mp,ms,mi,ma,mt⟩,p2,p3,2,0,0⟩;unfold Xn Fl.enc Zj at jl;dsimp only at jl;rw[hF]at jl;have uN:ah 3 (S.cR 1 2)∧(∀ l,ah 3 (bJ l))∧(∀ S':NS,ah 5 (S'.cR 3 4))∧∀ l,ah 5 (bJ l):=⟨NS.dI aJ aJ,fun l=>Kr 3 l,fun _=>NS.dI aJ aJ,fun l=>Kr 5 l⟩
       have Hw:∀ ρ,ay ρ (S.cR 1 2)=S.cR (ρ 1) (ρ 2)/\∀ S':NS,ay ρ (S'.cR 3 4)=S'.cR (ρ 3) (ρ 4):=fun ρ=>⟨NS.da ρ,fun S'=>NS.da (S:=S') ρ⟩
       refine Qd (An @e1 (An @e3 @f1)) ?_;refine Qc ?_ ?_<;>intro h9
       ·exact absurd h9 af
       refine Qd (An @e1 @e3) ?_
       ((first|refine Kn (ins:=[0,1,2]) jl ?_ ?_|refine Jb (ins:=[0,1,2]) jl ?_ ?_|refine Ja (ins:=[0,1,2]) jl ?_ ?_|refine Zg (ins:=[0,1,2]) jl ?_ ?_)<;>(have aQ:=@e1;have bu:=@e3;have bO:=@uN;have cy:=@Hw;have dc:=@Xb;have eT:=@Qu;refine XG ?_;clear aQ bu bO cy dc eT;(try first|exact rfl|exact True.intro);((try with_reducible and_intros);all_goals try first|refine zm ?_|exact CL)))
       ·decide
       refine Qa ?_;refine Xc hT ?_;refine Qa ?_;exact ⟨(),To.ia 6 7 aJ av rfl rfl rfl (by simp[Rp.enc,Qs,Qe,ah,look,aB,ay])⟩
     ·have f1:(p1 != 17)=true:=bne_iff_ne.2 c1;rw[am (.inl c1)]at hx;subst hx
      (have aQ:=@e1;have bu:=@e3;have bO:=@f1;refine XG ?_;clear aQ bu bO;((try with_reducible and_intros);all_goals try first|refine zm ?_|exact CL))
      any_goals (intro h;cases h;done)
      refine Yc ?_;have hn:=br 11;unfold bN Rp.enc;refine Qa ?_;refine Xc hn ?_;exact ⟨(),To.ia 1 2 (by decide) (by simp) rfl (by first|rfl|(rw[hF];rfl)) rfl (by simp[Qs,Qe,ah,look,aB,ay])⟩
   ·rw[am h0]at hx;obtain ⟨k1,k2⟩:=Td h0;rw[k1,k2];subst hx;refine Qa ?_;refine Yc ?_;refine Qa ?_;refine Xc hT ?_;refine Qa ?_;exact ⟨(),To.ia 1 2 aJ av (congrArg Bk.cells (Xee ..).symm) rfl (congrArg (fun l=>Bk.cells (Ql l)) (Sj ..).symm) (by simp[Rp.enc,Qs,Qe,ah,look,aB,ay])⟩
def Xp3:PS Tryz.prog gl 104 [.int .i64 e] (.agg [.int .i64 e,.str [],.bool false,.str []]):=by
 have dA:FT Tryz.prog 104 Tryz.f104 (aG Tryz.prog Tryz.f104) [.cell 2 (.ag 4)]:=.of Tryz.func104;refine dA.ps (ap rfl) (by simp[Qe,ah]) fun c hN hg=>?_
 conv in aG _ _=>cbv
 exact Qp
def NS.Th (h:S.tb.wf)(v f i:Nat):(S.cR f i).set 35 (.int .i64 v)=({ S with ref:=v }:NS).cR f i:=NS.gC h 5 _
def yB (a:Ac):List (Nat×Bk):=[(3,.cells [.ptr 0 0]),(4,.cells a.enc),(5,.cells [.cl 104 []])]
def Yag (S:NS)(hw:S.tb.wf)(Sc:S.ref<=4)(a:Ac)(hf:a.frame.length<=140737488351232)(yq:cH a.frame=0)(e:Int):GS Tryz.prog gl 105 [.int .i64 e,.ptr 3 0,.ptr 5 0,.ptr 4 0] (Xn S++yB a) 6 (.agg (S.refuse a.frame e).1.enc) (Xn (S.refuse a.frame e).2++yB a) 6:=by
 have dA:FT Tryz.prog 105 Tryz.f105 (aG Tryz.prog Tryz.f105) [.cell 5 (.ag 4)]:=.of Tryz.func105;refine dA.gs (ap rfl) (fun q hq=>?_) fun c hN hg=>?_
 ·rcases List.mem_append.1 hq with hq|hq
  ·exact Bq S q hq
  ·simp[yB]at hq;rcases hq with rfl|rfl|rfl<;>trivial
 conv in aG _ _=>cbv
 obtain ⟨e1,e2,e3,e4,e5,e6,e7,e8,e9,Br⟩:=S.nU hw 1 2;have hR:=Xik c.gl a.frame S.ref hf;have hn:kS Tryz.prog c .cC [.cl 104 [],.int .i64 e] (.agg [.int .i64 e,.str [],.bool false,.str []]):=Jr (caps:=[]) (Xp3 c.gl e) (by simp[ah,Qe]);have mL:=fun S':NS=>NS.dI (S:=S') (n:=6) (by decide:1<6) (by decide:2<6);have eI:=fun (S:NS) (ρ:Nat->Nat)=>NS.da (S:=S) (f:=1) (i:=2) ρ;have jB:=fun l=>Kr 6 l;unfold yB Xn NS.refuse;by_cases h0:S.ref=0
 ·rw[am (.inl h0)];obtain ⟨a1,a2,a3,a4⟩:=a;unfold Ac.enc bN Rp.enc;refine Qd (An @e1 @e8) ?_;refine Qc ?_ ?_<;>intro h1
  ·refine Qa ?_;refine Xc hn ?_;exact ⟨[],by exact Qi (An @mL (An @jB (An @eI (An @Xb @Qu))))⟩
  ·omega
 ·unfold Wb at hR;rw[aa af,aa af]at hR;rw[aa af];have tv:=NS.Th hw (S.ref - 1) 1 2;have cD:(S.ref:Int) - 1=((S.ref - 1:Nat):Int):=by omega
  obtain ⟨a1,a2,a3,a4⟩:=a;unfold Ac.enc Rp.enc;dsimp only at *
  refine Qd (An @e1 @e8) ?_;refine Qc ?_ ?_<;>intro h1
  ·omega
  refine Qd (An @e1 @e8) ?_;refine Qj hR (An @e1 @e8) ?_;refine Qd (An @e1 (An @e8 (An @cD @tv))) ?_;exact ⟨[],by (have aQ:=@mL;have bu:=@jB;have bO:=@eI;have cy:=@Xb;have dc:=@Qu;refine XG ?_;clear aQ bu bO cy dc;((try with_reducible and_intros);all_goals try first|refine zm ?_|exact CL))<;>rfl⟩
def Xly {l:List (Int×Fl)}(hd:l.Pairwise fun p q=>p.1≠q.1)  (hb:b<l.length):(l.filter fun r=>!(r.1==l[b].1))=l.take b++l.drop (b+1):=by
 have hs:l=l.take b++l[b]::l.drop (b+1):=by
  conv=>lhs;rw[<- List.take_append_drop b l,List.drop_eq_getElem_cons hb]
 have hp:=hd;rw[hs,List.pairwise_append,List.pairwise_cons]at hp;obtain ⟨_,⟨h2,_⟩,h3⟩:=hp
 conv=>lhs;arg 2;rw[hs]
 rw[List.filter_append,List.filter_cons,aa av];congr 1
 ·refine List.filter_eq_self.2 fun q hq=>?_;simpa using h3 q hq _ (mem_cons_self)
 ·refine List.filter_eq_self.2 fun q hq=>?_;have:=h2 q hq;simpa using fun e=>this e.symm
def Yfo (S:NS)(b:Nat):(S.fl.take b++S.fl.drop (b+1)).map (fun q=>(⟨q.1,q.2.due.toNat⟩:Tm))=S.aZ.take b++S.aZ.drop (b+1):=by
 unfold NS.aZ;rw[map_append,map_take,map_drop]
def Yc1 (x:NS×List Ev)(k:Int):(cT x k).1.fl=x.1.fl.filter fun r=>!(r.1==k):=by
 obtain ⟨tb,es,e,_⟩:=Xdn x k;rw[e]
theorem Xu0 (S:NS)(d:Int):a7 (S.dU d 0).1.aZ (S.now+d.toNat+1)=(S.ended d).drop 0:=rfl
def Xwk {S:NS}(h:NI S){d:Int}(hd:¬ (d<1\/549755813888-S.now<d)){i b:Nat}(hi:a7 (S.dU d i).1.aZ (S.now+d.toNat+1)=(S.ended d).drop i)(hb:b<(S.dU d i).1.fl.length){t:Tm}(ht:(S.dU d i).1.aZ[b]?=some t)
  (iS:t.due<=S.now+d.toNat) (hl:∀ u ∈ (S.dU d i).1.aZ,u.due<=S.now+d.toNat->kc t u=true) :
  i<(S.ended d).length/\S.dU d (i+1)=Hj (S.dU d i).1 (S.dU d i).2 (S.dU d i).1.fl[b]/\a7 (S.dU d (i+1)).1.aZ (S.now+d.toNat+1)=(S.ended d).drop (i+1):=by
 have GY:=(Hk h hd i).nj;have hid:t.id=(S.dU d i).1.fl[b].1:=by
  unfold NS.aZ at ht;rw[List.getElem?_map,List.getElem?_eq_getElem hb]at ht;simp only[Option.map_some,Option.some.injEq]at ht;rw[<- ht]
 obtain ⟨e1,_⟩:=Xsr ht iS hl;rw[hi]at e1;have hlt:i<(S.ended d).length:=by
  have:=congrArg List.length e1;simp at this;omega
 rw[List.drop_eq_getElem_cons hlt]at e1;obtain ⟨e2,e3⟩:=List.cons.inj e1;have hs:S.dU d (i+1)=cT (S.dU d i) (S.dU d i).1.fl[b].1:=by rw[Qyq S d i hlt,e2,hid]
 refine ⟨hlt,?_,?_⟩
 ·rw[hs];exact Qta GY.c4 (List.getElem_mem hb) _
 ·rw[e3];congr 1;show List.map _ (S.dU d (i+1)).1.fl=_;rw[hs,Yc1,Xly GY.c4 hb];exact Yfo _ _
def Xyi {i:Nat}(hi:a7 (S.dU d i).1.aZ (S.now+d.toNat+1)=(S.ended d).drop i)(hl:∀ u ∈ (S.dU d i).1.aZ,S.now+d.toNat<u.due):S.dU d i=(S.ended d).foldl cT (S.later d,[]):=by
 rw[(Xq6 hl).1]at hi;have:(S.ended d).length<=i:=List.drop_eq_nil_iff.1 hi.symm;unfold NS.dU;rw[List.take_of_length_le this]
def Ybc (h:NI S)  (hd:¬ (d<1\/549755813888-S.now<d))(i:Nat){q:Int×Fl}(hq:q ∈ (S.dU d i).1.fl):0<=q.2.due/\q.2.due<=S.now+60:=by
 rw[(Hk h hd i).fl]at hq;have:=h.due q (List.mem_filter.1 hq).1;omega
def Ygv (hd:S.fl.Pairwise fun p q=>p.1≠q.1)  (hb:b<S.fl.length):(S.cut S.fl[b].1).aA=S.aA.take b++S.aA.drop (b+1)/\(S.cut S.fl[b].1).keys=S.keys.take b++S.keys.drop (b+1)/\(S.cut S.fl[b].1).fl.length=S.fl.length-1:=by
 have e:(S.cut S.fl[b].1).fl=S.fl.take b++S.fl.drop (b+1):=Xly hd hb;refine ⟨?_,?_,?_⟩
 ·unfold NS.aA;rw[e,map_append,map_take,map_drop]
 ·unfold NS.keys;rw[e,map_append,map_take,map_drop]
 ·rw[e,List.length_append,List.length_take,List.length_drop];omega
def Ybr (b:Bool):GS Tryz.prog gl 26 [.bool b] [] 0 (.ptr 0 0) (Xn (NS.new b)) 3:=by
 have dA:FT Tryz.prog 26 Tryz.f26 (aG Tryz.prog Tryz.f26) [.t 2]:=.of Tryz.func26;refine dA.gsT (ap rfl) fun c bf hg=>?_;subst hg
 conv in aG _ _=>cbv
 refine Qa ?_;refine (To.wkC (b:=0) (A:=zT) (x:=.nils) (y:=.isl 0 []) (B:=[.nils,.nils,.int .i64 0,.int .i64 0,.int .i64 0,.int .i64 4,.int .i64 0,.bool b]) rfl Wk.nils).trans ?_;refine (To.jZ (b:=0) (j:=30) (es:=10) (cs:=zT++.isl 0 []::[.nils,.nils,.int .i64 0,.int .i64 0,.int .i64 0,.int .i64 4,.int .i64 0,.bool b]) rfl rfl rfl).trans ?_;refine (To.jZ (b:=0) (j:=31) (es:=1) (cs:=zT++.isl 0 []::[.sl 10 1 0 0 0,.nils,.int .i64 0,.int .i64 0,.int .i64 0,.int .i64 4,.int .i64 0,.bool b]) rfl rfl rfl).trans ?_;exact To.ia 1 2 aJ av rfl rfl rfl (by simp[Qs,Qe,look,aB])
def Xmm (hl:l.length<=1000000):PS Tryz.prog gl 29 [.isl l.length (bJ l),.isl l.length (bJ l)] (.bool true):=by
 have dA:FT Tryz.prog 29 Tryz.f29 (aG Tryz.prog Tryz.f29) [.t 4]:=.of Tryz.func29;refine dA.ps (ap rfl) (by simp[Qe]) fun c hN hg=>?_
 conv in aG _ _=>cbv
 have aE:=rO l;have fU:=Kr 0 l;refine Qa ?_;refine Yc ?_;refine Qa ?_
 refine Qv (fun k:Nat=>k≤l.length) (fun k=>⟨[(0,.isl l.length (bJ l)),(1,.isl l.length (bJ l)),(12,.int .i64 l.length),(13,.int .i64 k)],[],0⟩) (fun k=>l.length - k) dA.mixed hN
  ⟨0,by omega,[],by exact Qi @fU⟩ fun k hk=>?_
 refine Qa ?_;refine Qc ?_ ?_<;>intro h2
 ·have bg:k < l.length:=by omega
  have aK:=Du l k bg;generalize l[k]=x at *
  have heq:=@Yar c true x;refine Qd (An @aE @aK) ?_;refine Qj heq (An @aE @aK) ?_;refine Yc ?_;refine Qa ?_;refine ⟨k+1,by omega,⟨[],?_⟩,by omega⟩;exact Qi @fU
 ·have:k=l.length:=by omega
  subst this;exact Qp
end Go.Proofs.YtogckmommodmhaaGreatDoor
