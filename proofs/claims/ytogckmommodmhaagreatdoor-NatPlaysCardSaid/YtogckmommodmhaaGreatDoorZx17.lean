import Derived.Test.YtogckmommodmhaaGreatDoorZx15
namespace Go.Proofs.YtogckmommodmhaaGreatDoor
open Go.RowKit
set_option linter.all false
set_option maxRecDepth 100000
variable (gl:Nat->AV)
def Ya0 {P:Int->Prop}(h:∀ n:Fin 256,P (n.val:Int)){x:Int}(h0:0<=x)(h1:x<=255):P x:=by
 obtain ⟨n,rfl⟩:=Int.eq_ofNat_of_zero_le h0;exact h ⟨n,by omega⟩
def Qy7 (ae st:Int):PS Tryz.prog gl 152 [.int .i64 ae,.int .i64 st] (.int .i64 (Yw ae st)):=by
 have dA:FT Tryz.prog 152 Tryz.f152 (aG Tryz.prog Tryz.f152) [.t 4]:=.of Tryz.func152;refine dA.ps (ap rfl) (by simp[Qe]) fun c hN hg=>?_
 conv in aG _ _=>cbv
 refine Qa ?_
 (repeat' (first|(refine Qc ?_ ?_<;>intro hh<;>refine Qa ?_) ))
 all_goals simp_all [Yw]
def Xt9 (p:Int)(r:List AV)(hr:r.length=11):PS Tryz.prog gl 114 [.agg (.int .i64 p::r)] (.int .i64 (Wr p)):=by
 have dA:FT Tryz.prog 114 Tryz.f114 (aG Tryz.prog Tryz.f114) [.t 2]:=.of Tryz.func114;refine dA.ps (ap rfl) (by simp[Qe]) fun c hN hg=>?_
 conv in aG _ _=>cbv
 refine Qa ?_
 (repeat' (first|(refine Qc ?_ ?_<;>intro hh<;>refine Qa ?_) ))
 all_goals simp_all [Wr]
def kG (fl b:Int):Bool:=bits .and .i64 fl b==b
def pV (fl b:Int):Bool:=(IntKind.i64.wrap (fl.tdiv b)).tmod 2==1
def Xzm (b f1 f2 f3 f4 f5 f6 f7 fl f9 f10 f11:Int)(bd:List UInt8)(hb:0<b/\b<=16):GS Tryz.prog gl 153 [.int .i64 b,.ptr 0 0] [(0,.cells [.int .i64 f1,.int .i64 f2,.int .i64 f3,.int .i64 f4,.int .i64 f5,.int .i64 f6,.int .i64 f7,.int .i64 fl,.int .i64 f9,.int .i64 f10,.int .i64 f11,.str bd])] 1 (.bool (pV fl b)) [(0,.cells [.int .i64 f1,.int .i64 f2,.int .i64 f3,.int .i64 f4,.int .i64 f5,.int .i64 f6,.int .i64 f7,.int .i64 fl,.int .i64 f9,.int .i64 f10,.int .i64 f11,.str bd])] 1:=by
 have dA:FT Tryz.prog 153 Tryz.f153 (aG Tryz.prog Tryz.f153) [.t 3]:=.of Tryz.func153;refine dA.gs (ap rfl) (by simp[Bk.live]) fun c hN hg=>?_
 conv in aG _ _=>cbv
 refine Qa ?_;exact ⟨[],by exact Qi @pV.eq_1⟩
def Xwb (b f1 f2 f3 f4 f5 f6 f7 fl f9 f10 f11:Int)(bd:List UInt8):GS Tryz.prog gl 150 [.int .i64 b,.ptr 0 0] [(0,.cells [.int .i64 f1,.int .i64 f2,.int .i64 f3,.int .i64 f4,.int .i64 f5,.int .i64 f6,.int .i64 f7,.int .i64 fl,.int .i64 f9,.int .i64 f10,.int .i64 f11,.str bd])] 1 (.bool (kG fl b)) [(0,.cells [.int .i64 f1,.int .i64 f2,.int .i64 f3,.int .i64 f4,.int .i64 f5,.int .i64 f6,.int .i64 f7,.int .i64 fl,.int .i64 f9,.int .i64 f10,.int .i64 f11,.str bd])] 1:=by
 have dA:FT Tryz.prog 150 Tryz.f150 (aG Tryz.prog Tryz.f150) [.t 3]:=.of Tryz.func150;refine dA.gs (ap rfl) (by simp[Bk.live]) fun c hN hg=>?_
 conv in aG _ _=>cbv
 refine Qa ?_;exact ⟨[],by exact Qi @kG.eq_1⟩
def Xg9 (p s i a pt r rp st sd du now x:Int):GS Tryz.prog gl 151 [.int .i64 x,.ptr 0 0,.ptr 1 0] [(0,.cells (Zj p s i a pt r rp st sd du)),(1,.cells [.int .i64 now])] 2 (.agg (Zj p s i a pt r rp x sd (IntKind.i64.wrap (now+Yw p x)))) [(0,.cells (Zj p s i a pt r rp x sd (IntKind.i64.wrap (now+Yw p x)))),(1,.cells [.int .i64 now])] 2:=by
 have dA:FT Tryz.prog 151 Tryz.f151 (aG Tryz.prog Tryz.f151) [.cell 4 (.ag 10)]:=.of Tryz.func151;refine dA.gs (ap rfl) (by simp[Bk.live]) fun c hN hg=>?_
 conv in aG _ _=>cbv
 have hl:=Qy7 c.gl p x;refine Qd @Zj.eq_1 ?_;refine Qj hl @Zj.eq_1 ?_;exact ⟨[],by exact Qp⟩
def Xd9:∀ n:Fin 256,((bits .and .i64 (n.val:Int) 23==2)=(pV n.val 2 && !pV n.val 1 && !pV n.val 4 && !pV n.val 16)):=by decide +kernel
def Xhw (p:Pk)(hp:p.ae=1\/p.ae=6\/p.ae=17)(hf:0<=p.flags/\p.flags<=255):PS Tryz.prog gl 109 [.agg p.enc] (.bool (yg p.ae p.flags)):=by
 have dA:FT Tryz.prog 109 Tryz.f109 (aG Tryz.prog Tryz.f109) [.t 2]:=.of Tryz.func109;refine dA.ps (ap rfl) (by simp[Qe]) fun c hN hg=>?_
 conv in aG _ _=>cbv
 obtain ⟨p1,p2,p3,p4,p5,p6,p7,p8,p9,dh,di,pb⟩:=p;have hd:=Ya0 (P:=fun x=>(bits .and .i64 x 23==2)=(pV x 2 && !pV x 1 && !pV x 4 && !pV x 16)) Xd9 hf.1 hf.2;have hB:=fun b hb=>Xzm c.gl b p1 p2 p3 p4 p5 p6 p7 p8 p9 dh di pb hb;unfold Pk.enc yg;dsimp only at hd hp ⊢;rw[hd];have hb:=fun b (h:b=2\/b=1\/b=4\/b=16)=>hB b af;have h2:=hb 2 av;have h1:=hb 1 av;have h4:=hb 4 av;have h16:=hb 16 av;clear hB hb hd;rcases hp with rfl|rfl|rfl
 ·generalize hx:(p8==8)=x;refine Qd @hx ?_;cases x<;>(repeat' (first|((first|apply xh|apply xi)<;>(have aQ:=@hx;refine XG ?_;clear aQ;first|exact rfl|exact True.intro|((try with_reducible and_intros);all_goals try first|refine zm ?_|exact CL)))|fail))
 ·generalize pV p8 2=x2 at *
  generalize pV p8 1=x1 at *
  generalize pV p8 4=x4 at *
  generalize pV p8 16=wE at *
  refine Qa ?_;refine tW ?_;refine qh (ip [0]) h2 ?_;cases x2
  ·(repeat' (first|((first|apply xh|apply xi)<;>(refine XG ?_;first|exact rfl|exact True.intro|((try with_reducible and_intros);all_goals try first|refine zm ?_|exact CL)))|fail))
  refine Qa ?_;refine tW ?_;refine qh (ip [0]) h1 ?_;cases x1;rotate_left
  ·(repeat' (first|((first|apply xh|apply xi)<;>(refine XG ?_;first|exact rfl|exact True.intro|((try with_reducible and_intros);all_goals try first|refine zm ?_|exact CL)))|fail))
  refine Qa ?_;refine tW ?_;refine qh (ip [0]) h4 ?_;cases x4;rotate_left
  ·(repeat' (first|((first|apply xh|apply xi)<;>(refine XG ?_;first|exact rfl|exact True.intro|((try with_reducible and_intros);all_goals try first|refine zm ?_|exact CL)))|fail))
  refine Qa ?_;refine tW ?_;exact Od (ip [0]) h16
 ·refine Qa ?_
  (repeat' (first|((first|apply xh|apply xi)<;>(refine XG ?_;first|exact rfl|exact True.intro|((try with_reducible and_intros);all_goals try first|refine zm ?_|exact CL)))|fail))
def Xsg:Prop:=∀ n:Fin 256,(kG n.val 4=(bits .and .i64 n.val 4 != 0))/\(kG n.val 1=(bits .and .i64 n.val 1 != 0))/\(kG n.val 2=(bits .and .i64 n.val 2 != 0))/\((kG n.val 2&&kG n.val 16)=(bits .and .i64 n.val 18==18))
def Yhb:Xsg:=by unfold Xsg;decide +kernel
def Bl (p st sd du:Int)(x1 x2 x4 wE bn:Bool)(now:Int):Int×Int×Int :=
 let side:Int:=if bn then 1 else 0
 let x:Int × Int × Bool:=if p=6 then
   (if x4=true then (4,sd,st != 4) else if st=1∧bn=true∧(x2 && wE)=true then (2,sd,true) else if st=2∧x1=true then (3,side,true)
    else if st=3/\x1=true/\sd≠side then (4,sd,true) else if st=1 then (st,sd,!bn&&x2) else (st,sd,st==2))
  else (st,sd,!(bn&&p==17))
 (x.1,x.2.1,if x.2.2 then IntKind.i64.wrap (now+Yw p x.1) else du)
def Xr7 (st sd du:Int)(x1 x2 x4 wE bn:Bool)(now:Int):Bl 6 st sd du x1 x2 x4 wE bn now =
  if x4=true then (4,sd,if st=4 then du else IntKind.i64.wrap (now+Yw 6 4)) else if st=1 then (if bn=true then (if (x2&&wE)=true then (2,sd,IntKind.i64.wrap (now+Yw 6 2)) else (1,sd,du)) else (1,sd,if x2=true then IntKind.i64.wrap (now+Yw 6 1) else du))
  else if st=2 then (if x1=true then (3,if bn then 1 else 0,IntKind.i64.wrap (now+Yw 6 3)) else (2,sd,IntKind.i64.wrap (now+Yw 6 2))) else if st=3/\x1=true/\sd≠(if bn then 1 else 0) then (4,sd,IntKind.i64.wrap (now+Yw 6 4)) else (st,sd,du):=by
 unfold Bl;dsimp only;rw[am rfl]
 (repeat' split)<;>simp_all
def Xyf (p st sd du fl:Int)(bn:Bool)(now:Int)(hf:0<=fl/\fl<=255):Ur p st sd du fl bn now=Bl p st sd du (kG fl 1) (kG fl 2) (kG fl 4) (kG fl 16) bn now:=by
 obtain ⟨e1,e2,e3,e4⟩:=Ya0 (P:=fun x=>(kG x 4=(bits .and .i64 x 4 != 0))/\(kG x 1=(bits .and .i64 x 1 != 0))/\(kG x 2=(bits .and .i64 x 2 != 0))/\((kG x 2&&kG x 16)=(bits .and .i64 x 18==18))) Yhb hf.1 hf.2;unfold Ur Bl;rw[e4,e1,e2,e3];simp only[bne_iff_ne,ne_eq,beq_iff_eq]
set_option maxHeartbeats 4000000 in
def Qy6 (p s i a pt r rp st sd du:Int)(f1 f2 f3 f4 f5 f6 f7 fl f9 f10 f11:Int)(bd:List UInt8)(bn:Bool)(now:Int)(hf:0<=fl/\fl<=255) :
  PS Tryz.prog gl 108 [.agg (Zj p s i a pt r rp st sd du),.agg [.int .i64 f1,.int .i64 f2,.int .i64 f3,.int .i64 f4,.int .i64 f5,.int .i64 f6,.int .i64 f7,.int .i64 fl,.int .i64 f9,.int .i64 f10,.int .i64 f11,.str bd],.bool bn,.int .i64 now]
   (.agg (Zj p s i a pt r rp (Ur p st sd du fl bn now).1 (Ur p st sd du fl bn now).2.1 (Ur p st sd du fl bn now).2.2)):=by
 have dA:FT Tryz.prog 108 Tryz.f108 (aG Tryz.prog Tryz.f108) [.cell 8 (.ag 10)]:=.of Tryz.func108;rw[Xyf p st sd du fl bn now hf];refine dA.ps (ap rfl) (by simp[Qe,ah,Zj]) fun c hN hg=>?_
 conv in aG _ _=>cbv
 have hh:=fun b=>Xwb c.gl b f1 f2 f3 f4 f5 f6 f7 fl f9 f10 f11 bd;have ik:=hh 1;have hh2:=hh 2;have hh4:=hh 4;have SH:=hh 16;clear hh;generalize kG fl 1=x1 at *
 generalize kG fl 2=x2 at *
 generalize kG fl 4=x4 at *
 generalize kG fl 16=wE at *
 have hl:=fun sd x=>Xg9 c.gl p s i a pt r rp st sd du now x;unfold Zj at hl;refine Qd @Zj.eq_1 ?_;refine Qc ?_ ?_<;>intro h1
 ·have hX:Bl p st sd du x1 x2 x4 wE bn now=(st,sd,if (bn&&p==17)=true then du else IntKind.i64.wrap (now+Yw p st)):=by
   unfold Bl;dsimp only;rw[aa h1];cases hq:(bn&&p==17)<;>simp
  rw[hX];refine Qa ?_;refine Qc ?_ ?_<;>intro h2
  ·have h3:(bn && p == 17)=true:=by simp_all
   rw[h3,am rfl];exact Qp
  ·have h3:(bn && p == 17)=false:=by cases bn<;>simp_all
   rw[h3,aa av];have h4:=hl sd st;refine Qa ?_;exact Od (ip [0,2]) h4
 subst h1;have hX:=Xr7 st sd du x1 x2 x4 wE bn now;generalize Bl 6 st sd du x1 x2 x4 wE bn now=X at *
 obtain ⟨X1,X2,X3⟩:=X;dsimp only;have nT:=hl sd 4;have hl2:=hl sd 2;have jg:=hl sd 1;cases bn
 ·refine Qa ?_;refine Yc ?_;refine Qa ?_;refine qh (ip [1]) hh4 ?_;refine Qc ?_ ?_<;>intro h3
  ·subst h3;refine Qa ?_;refine Qc ?_ ?_<;>intro h4
   ·simp[h4]at hX;refine Qa ?_;simp_all
   ·simp[h4]at hX;refine Qa ?_
    ((first|refine Kn (ins:=[0,2]) nT ?_ ?_|refine Jb (ins:=[0,2]) nT ?_ ?_|refine Ja (ins:=[0,2]) nT ?_ ?_|refine Zg (ins:=[0,2]) nT ?_ ?_)<;>(refine XG ?_;(try first|exact rfl|exact True.intro);((try with_reducible and_intros);all_goals try first|refine zm ?_|exact CL)))<;>first|rfl|(simp_all;done)
  have h3:x4=false:=by simpa using h3
  subst h3;refine Qa ?_;refine Qc ?_ ?_<;>intro h5
  ·subst h5;simp at hX;refine Qa ?_;refine Yb ?_;refine Yb ?_;refine Yc ?_;refine Qa ?_;refine tW ?_;refine qh (ip [1]) hh2 ?_;refine Qc ?_ ?_<;>intro h7
   ·subst h7;simp at hX;refine Qa ?_
    ((first|refine Kn (ins:=[0,2]) jg ?_ ?_|refine Jb (ins:=[0,2]) jg ?_ ?_|refine Ja (ins:=[0,2]) jg ?_ ?_|refine Zg (ins:=[0,2]) jg ?_ ?_)<;>(refine XG ?_;(try first|exact rfl|exact True.intro);((try with_reducible and_intros);all_goals try first|refine zm ?_|exact CL)))<;>first|rfl|(simp_all;done)
   ·simp[h7]at hX;refine Qa ?_;simp_all
  refine Qa ?_;refine Qc ?_ ?_<;>intro h6
  ·subst h6;simp at hX;refine Qa ?_;refine qh (ip [1]) ik ?_;refine Qc ?_ ?_<;>intro h7
   ·subst h7;simp at hX;have h8:=hl 0 3;refine Qa ?_
    ((first|refine Kn (ins:=[0,2]) h8 ?_ ?_|refine Jb (ins:=[0,2]) h8 ?_ ?_|refine Ja (ins:=[0,2]) h8 ?_ ?_|refine Zg (ins:=[0,2]) h8 ?_ ?_)<;>(refine XG ?_;(try first|exact rfl|exact True.intro);((try with_reducible and_intros);all_goals try first|refine zm ?_|exact CL)))<;>first|rfl|(simp_all;done)
   ·simp[h7]at hX;refine Qa ?_
    ((first|refine Kn (ins:=[0,2]) hl2 ?_ ?_|refine Jb (ins:=[0,2]) hl2 ?_ ?_|refine Ja (ins:=[0,2]) hl2 ?_ ?_|refine Zg (ins:=[0,2]) hl2 ?_ ?_)<;>(refine XG ?_;(try first|exact rfl|exact True.intro);((try with_reducible and_intros);all_goals try first|refine zm ?_|exact CL)))<;>first|rfl|(simp_all;done)
  refine Qa ?_;refine Qc ?_ ?_<;>intro h7
  ·subst h7;simp at hX;refine Qa ?_;refine qh (ip [1]) ik ?_;refine Qc ?_ ?_<;>intro h8
   ·have h9:x1=true∧sd≠0:=by cases x1<;>simp_all
    rw[am h9]at hX;refine Qa ?_
    ((first|refine Kn (ins:=[0,2]) nT ?_ ?_|refine Jb (ins:=[0,2]) nT ?_ ?_|refine Ja (ins:=[0,2]) nT ?_ ?_|refine Zg (ins:=[0,2]) nT ?_ ?_)<;>(refine XG ?_;(try first|exact rfl|exact True.intro);((try with_reducible and_intros);all_goals try first|refine zm ?_|exact CL)))<;>first|rfl|(simp_all;done)
   ·have h9:¬ (x1=true∧sd≠0):=by cases x1<;>simp_all
    rw[aa h9]at hX;refine Qa ?_;simp_all
  ·simp[h5,h6,h7]at hX;refine Qa ?_;simp_all
 ·refine Qa ?_;refine Yc ?_;refine Qa ?_;refine qh (ip [1]) hh4 ?_;refine Qc ?_ ?_<;>intro h3
  ·subst h3;refine Qa ?_;refine Qc ?_ ?_<;>intro h4
   ·simp[h4]at hX;refine Qa ?_;simp_all
   ·simp[h4]at hX;refine Qa ?_
    ((first|refine Kn (ins:=[0,2]) nT ?_ ?_|refine Jb (ins:=[0,2]) nT ?_ ?_|refine Ja (ins:=[0,2]) nT ?_ ?_|refine Zg (ins:=[0,2]) nT ?_ ?_)<;>(refine XG ?_;(try first|exact rfl|exact True.intro);((try with_reducible and_intros);all_goals try first|refine zm ?_|exact CL)))<;>first|rfl|(simp_all;done)
  have h3:x4=false:=by simpa using h3
  subst h3;refine Qa ?_;refine Qc ?_ ?_<;>intro h5
  ·subst h5;simp at hX;refine Qa ?_;refine tW ?_;refine qh (ip [1]) hh2 ?_;cases x2
   ·refine Yb ?_;refine Yc ?_;refine Qa ?_;refine Yb ?_;refine Yc ?_;refine Qa ?_;simp_all
   ·refine Qa ?_;refine tW ?_;refine qh (ip [1]) SH ?_;refine Qc ?_ ?_<;>intro h6
    ·subst h6;simp at hX;refine Qa ?_
     ((first|refine Kn (ins:=[0,2]) hl2 ?_ ?_|refine Jb (ins:=[0,2]) hl2 ?_ ?_|refine Ja (ins:=[0,2]) hl2 ?_ ?_|refine Zg (ins:=[0,2]) hl2 ?_ ?_)<;>(refine XG ?_;(try first|exact rfl|exact True.intro);((try with_reducible and_intros);all_goals try first|refine zm ?_|exact CL)))<;>first|rfl|(simp_all;done)
    ·simp[h6]at hX;refine Qa ?_;refine Yb ?_;refine Yc ?_;refine Qa ?_;simp_all
  refine Qa ?_;refine Qc ?_ ?_<;>intro h6
  ·subst h6;simp at hX;refine Qa ?_;refine qh (ip [1]) ik ?_;refine Qc ?_ ?_<;>intro h7
   ·subst h7;simp at hX;have h8:=hl 1 3;refine Qa ?_
    ((first|refine Kn (ins:=[0,2]) h8 ?_ ?_|refine Jb (ins:=[0,2]) h8 ?_ ?_|refine Ja (ins:=[0,2]) h8 ?_ ?_|refine Zg (ins:=[0,2]) h8 ?_ ?_)<;>(refine XG ?_;(try first|exact rfl|exact True.intro);((try with_reducible and_intros);all_goals try first|refine zm ?_|exact CL)))<;>first|rfl|(simp_all;done)
   ·simp[h7]at hX;refine Qa ?_
    ((first|refine Kn (ins:=[0,2]) hl2 ?_ ?_|refine Jb (ins:=[0,2]) hl2 ?_ ?_|refine Ja (ins:=[0,2]) hl2 ?_ ?_|refine Zg (ins:=[0,2]) hl2 ?_ ?_)<;>(refine XG ?_;(try first|exact rfl|exact True.intro);((try with_reducible and_intros);all_goals try first|refine zm ?_|exact CL)))<;>first|rfl|(simp_all;done)
  refine Qa ?_;refine Qc ?_ ?_<;>intro h7
  ·subst h7;simp at hX;refine Qa ?_;refine qh (ip [1]) ik ?_;refine Qc ?_ ?_<;>intro h8
   ·have h9:x1=true∧sd≠1:=by cases x1<;>simp_all
    rw[am h9]at hX;refine Qa ?_
    ((first|refine Kn (ins:=[0,2]) nT ?_ ?_|refine Jb (ins:=[0,2]) nT ?_ ?_|refine Ja (ins:=[0,2]) nT ?_ ?_|refine Zg (ins:=[0,2]) nT ?_ ?_)<;>(refine XG ?_;(try first|exact rfl|exact True.intro);((try with_reducible and_intros);all_goals try first|refine zm ?_|exact CL)))<;>first|rfl|(simp_all;done)
   ·have h9:¬ (x1=true∧sd≠1):=by cases x1<;>simp_all
    rw[aa h9]at hX;refine Qa ?_;simp_all
  ·simp[h5,h6,h7]at hX;refine Qa ?_;simp_all
end Go.Proofs.YtogckmommodmhaaGreatDoor
