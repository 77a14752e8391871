import Derived.Test.YtogckmommodmhaaGreatDoorZy14
import Derived.Test.YtogckmommodmhaaGreatDoorZy11
import Derived.Test.YtogckmommodmhaaGreatDoorZy9
namespace Go.Proofs.YtogckmommodmhaaGreatDoor
open List (mem_cons mem_cons_self mem_cons_of_mem map_congr_left mem_range map_id mem_singleton map_cons map_nil length_cons take_add_one getElem_mem take_length mem_append mem_map find?_eq_none any_eq_true pairwise_iff_getElem getElem_of_mem map_append)
open Go.RowKit
set_option linter.all false
set_option maxHeartbeats 4000000
set_option maxRecDepth 100000
variable {p:List Nat}{σ:Nat->Nat}{m:Mp}{t t':List (Nat×AV)}{ex:List (Nat×Bk)}{i:Nat}{tb:Tb}{x:Bk}(gl:Nat->AV)(v seq:Int)(n:Nat)
def Xoz {h:List (Nat×Bk)}{n b:Nat}(hb:∀ q ∈ h,q.1≠b):Qc h n b=if b<n then .dead else .free:=by
 have:=Xo (h:=[]) (n:=n) (j:=b) hb;rw[List.append_nil]at this;rw[this];rfl
section
variable {h h0 h1 ex ex':List (Nat×Bk)}{m n n' b:Nat}
def HL.hi (H:HL h m)(n b:Nat)(hb:m<=b):Qc h n b=if b<n then .dead else .free:=Xoz fun q hq e=>by have:=(H.mem q hq).1;omega
def HL.lo (H:HL h m)(hb:b<m)(n:Nat):Qc h n b=Qc h m b:=(H.live hb n).1
def HL.nm (H:HL h m)(hb:b<m):bV m (Qc h m b):=by
 obtain ⟨_,q,hq,_,e⟩:=H.live hb m;rw[e];exact (H.mem q hq).2
def HL.lv (H:HL h m)(hb:b<m):(Qc h m b).live:=Xb (H.nm hb)
def HL.lives (H:HL h m):∀ q ∈ h,q.2.live:=fun q hq=>Xb (H.mem q hq).2
def HL.more (H:HL h m)  (hx:bV (m+1) x):HL ((m,x)::h) (m+1) where
 mem q hq:=by
  rcases mem_cons.1 hq with rfl|hq
  ·exact ⟨Nat.lt_succ_self _,hx⟩
  ·exact ⟨by have:=(H.mem q hq).1;omega,rq (Nat.le_succ m) (H.mem q hq).2⟩
 mh b hb:=by
  by_cases e:b=m
  ·exact ⟨_,mem_cons_self,e.symm⟩
  ·obtain ⟨q,hq,e2⟩:=H.mh b af;exact ⟨q,mem_cons_of_mem _ hq,e2⟩
 self q hq:=by
  rcases mem_cons.1 hq with rfl|hq
  ·rw[Qf,am rfl]
  ·have:=(H.mem q hq).1;rw[Qf,aa af,H.lo this,H.self q hq]
def To.pL (ρ:Nat->Nat)(H:HL h m)(hp:∀ b ∈ p,ρ b=b/\b<m)(ct:∀ b b',b<m->b'<m->ρ b=ρ b'->b=b')(hl:∀ b,b<m->Qc h0 n (ρ b)=Qw ρ (Qc h m b))(ht:Qr ρ m t t'):To p ⟨t,h0,n⟩ ⟨t',h,m⟩:=by
 refine To.lk ρ hp (fun b dG=>?_) (fun b hb gA=>(gA (H.lv hb)).elim) (fun b hb=>(H.hi m b hb).trans (aa (by have hb:m<=b:=hb;show ¬ b<m;omega))) (fun b b' hb bL _ _ e=>ct b b' hb bL e) (fun b hb dG=>⟨H.nm hb,hl b hb⟩) ht;by_cases hb:b<m
 ·exact hb
 ·have dG:(Qc h m b).live:=dG;rw[H.hi m b af,aa hb]at dG;exact dG.elim
def To.drop (H:HL h m)(hex:∀ q ∈ ex,m<=q.1)(hp:∀ b ∈ p,b<m)(ht:Qr id m t t'):To p ⟨t,ex++h,n⟩ ⟨t',h,m⟩ :=
 To.pL id H (fun b hb=>⟨rfl,hp b hb⟩) (fun b b' _ _ e=>e) (fun b hb=>by
  rw[qZ];show Qc (ex++h) n b=_;rw[Xo fun q hq e=>by have:=hex q hq;omega,H.lo hb]) ht
def lw (σ:Nat->Nat)(m b:Nat):Nat:=if b<m then σ b else b
def C9 (h:b<m):lw σ m b=σ b:=am h
def Gv (h:m<=b):lw σ m b=b:=aa (by omega)
def To.mid {p:List Nat}{t t':List (Nat×AV)}{σ:Nat->Nat}{k:Nat}(H:HL h m)(H':HL (ex'++h) k)(BO:m<=k)(jI:∀ q ∈ ex',m<=q.1)(ct:∀ b b',b<m->b'<m->σ b=σ b'->b=b')(hex:∀ q ∈ ex,mz σ m q.1)(ft:∀ b,b<m->∀ b',m<=b'->b'<k->σ b≠b')
  (hp:∀ b ∈ p,lw σ m b=b/\b<k) (hl:∀ b,m<=b->b<k->Qc (ex++Xa σ h) n b=Qw (lw σ m) (Qc (ex'++h) k b)) (ht:Qr (lw σ m) k t t'):To p ⟨t,ex++Xa σ h,n⟩ ⟨t',ex'++h,k⟩:=by
 refine To.pL (lw σ m) H' hp (fun b b' hb bL e=>?_) (fun b hb=>?_) ht
 ·by_cases h1:b < m<;>by_cases h2:b' < m
  ·rw[C9 h1,C9 h2]at e;exact ct _ _ h1 h2 e
  ·rw[C9 h1,Gv af]at e;exact (ft b h1 b' af bL e).elim
  ·rw[Gv af,C9 h2]at e;exact (ft b' h2 b af hb e.symm).elim
  ·rw[Gv af,Gv af]at e;exact e
 ·by_cases h1:b < m
  ·rw[C9 h1,Xo fun q hq e=>hex q hq b h1 e.symm,xk ct h1 (fun q hq=>(H.mem q hq).1) (H.mh b h1),Xo fun q hq e=>by have:=jI q hq;omega,H.lo h1 k];exact xV (g:=lw σ m) (fun b hb=>(C9 hb).symm) (H.nm h1)
  ·rw[Gv af];exact hl b af hb
def Xci {f g:Nat->Nat}(H:HL h m)(e:∀ b,b<m->f b=g b):Xa f h=Xa g h:=by
 unfold Xa;exact map_congr_left fun q hq=>by
  obtain ⟨h1,h2⟩:=H.mem q hq;rw[e q.1 h1,xV e h2]
end
def Xfa {m n b:Nat}(hb:b<m):dz id (List.range m) n b=b:=Us (mem_range.2 hb)
section
variable {P:Program}{c:Cx}{h h1 ex:List (Nat×Bk)}{m n:Nat}{v:Bool}{d:Option Nat}{kk:PK}{f:FuncId}{xs:List TV}{args:List AV}{r:AV}{t:List (Nat×AV)}{r0:List bD}{K:St->Prop}
def LD (H:HL h m)(hn:m<=n)(hp:∀ b ∈ p,b<m)(hex:∀ q ∈ ex,m<=q.1/\q.1<n)(hc:Qq none (aC c.gl (⟨t,ex++h,n⟩:St).fs xs)/\qi v f ((aC c.gl (⟨t,ex++h,n⟩:St).fs xs).map Qh)=some (f,args)/\ah m args) :
  so c.gl xs v f args id p m t ex h n:=by
 refine ⟨fun b b' _ _ e=>e,fun b hb=>by show b<n;omega,H,hp,fun q hq=>⟨fun b hb e=>by have:=(hex q hq).1;have e:b=q.1:=e;omega,(hex q hq).2⟩,?_,?_,hc.2.2⟩
 ·rw[Wo];exact hc.1
 ·rw[Wo,sm];exact hc.2.1
def Xs0 (H1:HL h1 m)(hr:Qe m r):Jr t ex h1 id (List.range m) m n d r=St.cd ⟨t,ex++h1,n+m⟩ d r:=by
 have e:aA (dz id (List.range m) n) r=r:=vU (n:=m) (fun b hb=>Xfa hb) r hr;unfold Jr;rw[Xci H1 (f:=dz id (List.range m) n) (g:=id) fun b hb=>Xfa hb,Wo,e]
theorem Yt (f:FuncId)(l:List AV):qi false f l=some (f,l):=rfl
def tg (hq:GD P c.gl f args h m (List.range m) r h1)(H:HL h m)(H1:HL h1 m)(hr:Qe m r)(hn:m<=n)(hex:∀ q ∈ ex,m<=q.1/\q.1<n)(hk:kk=(bif v then .dg else .call f))
  (hc:Qq none (aC c.gl (⟨t,ex++h,n⟩:St).fs xs)/\qi v f ((aC c.gl (⟨t,ex++h,n⟩:St).fs xs).map Qh)=some (f,args)/\ah m args) (hx:XP P c r0 K (St.cd ⟨t,ex++h1,n+m⟩ d r)):Yn P c (.pd d kk xs none) r0 K ⟨t,ex++h,n⟩:=by
 have:=OI (d:=d) (r0:=r0) (K:=K) hq (LD (v:=v) H hn (fun b hb=>mem_range.1 hb) hex hc) hk H1 hr (by rw[Xs0 H1 hr];exact hx);rw[Wo]at this;exact this
def Gw {p:List Nat}{anc:List Nat}{fs:List bg}(hq:GD P c.gl f args h m p r h1)(H:HL h m)(H1:HL h1 m)(hr:Qe m r)(hn:m<=n)(hp:∀ b ∈ p,b<m)(hex:∀ q ∈ ex,m<=q.1/\q.1<n)(hk:kk=(bif v then .dg else .call f))
  (hc:Qq none (aC c.gl (⟨t,ex++h,n⟩:St).fs xs)/\qi v f ((aC c.gl (⟨t,ex++h,n⟩:St).fs xs).map Qh)=some (f,args)/\ah m args) (hx:XD P c anc r0 (⟨Xf xs,jy id m n,d.toList,jy id m n⟩::fs) K (Jr t ex h1 id p m n d r)):Zm P c anc (.pd d kk xs none) r0 fs K ⟨t,ex++h,n⟩:=by
 have:=XR (d:=d) (anc:=anc) (fs:=fs) (r0:=r0) (K:=K) hq (LD (v:=v) H hn hp hex hc) hk H1 hr hx;rw[Wo]at this;exact this
def ti {p pp:List Nat}{s3:St}(bf:∀ q ∈ c.gh,q.1 ∈ pp)(hq:GD P c.gl f args h m p r h1)(H:HL h m)(H1:HL h1 m)(hr:Qe m r)(hn:m<=n)(hp:∀ b ∈ p,b<m)(hex:∀ q ∈ ex,m<=q.1/\q.1<n)(hk:kk=(bif v then .dg else .call f))
  (hc:Qq none (aC c.gl (⟨t,ex++h,n⟩:St).fs xs)/\qi v f ((aC c.gl (⟨t,ex++h,n⟩:St).fs xs).map Qh)=some (f,args)/\ah m args) (jf:To pp (Jr t ex h1 id p m n d r) s3) (hx:XP P c r0 K s3):Yn P c (.pd d kk xs none) r0 K ⟨t,ex++h,n⟩:=by
 have aS:=LD (v:=v) H hn hp hex hc;refine .inr fun ops io he g a w hR K' Q' hK=>?_;have hA:=OH (d:=d) hq aS hk H1 hr ops io he;rw[Wo]at hA;refine hA.step _ (fun _ _=>rfl) (fun _ _=>rfl) g a w hR K' Q' fun g2 a' w' cq=>?_;rw[HY hA.a6 hA.dm]at cq;obtain ⟨g3,mw⟩:=jf c g2 a' w' bf cq;exact hK g3 s3 a' w' hx mw
end
structure Ev where
 t:Int
 s:Int
 a:Int
 b:Int
 f:Bool
def Ev.enc (e:Ev):List AV:=[.int .i64 e.t,.int .i64 e.s,.int .i64 e.a,.int .i64 e.b,.bool e.f]
def Xk (l:List Ev):List AV:=l.flatMap Ev.enc
theorem xW (l:List Ev):(Xk l).length=l.length*5:=by
 induction l with
 | nil=>rfl
 | cons e l ih=>simp[Xk,Ev.enc]at ih ⊢;omega
def RQ (l:List Ev)(k:Nat)(h:k<l.length):((Xk l).drop (k*5)).take 5=(l[k]).enc:=by
 induction l generalizing k with
 | nil=>simp at h
 | cons e l ih =>
  cases k with
  | zero=>simp[Xk,Ev.enc]
  | succ k =>
   have:=ih k (by simpa using h);have e1:Xk (e::l)=e.enc++Xk l:=by simp[Xk]
   rw[e1,List.drop_append,List.drop_eq_nil_of_le (by simp[Ev.enc];omega)];have e2:(k+1)*5-e.enc.length=k*5:=by simp[Ev.enc];omega
   rw[e2];simpa using this
def Qz1 (l:List Ev)(i:Nat)(h:i<l.length)(j:Nat)(hj:j<5):(Xk l).getD (i*5+j) .any=l[i].enc.getD j .any:=by
 have:=RQ l i h;rw[<- this,Vg hj]
def Wv (l:List Ev):ah n (Xk l):=by
 rw[Xh];intro x hx;obtain ⟨e,_,he⟩:=List.mem_flatMap.1 hx;simp[Ev.enc]at he;rcases he with rfl|rfl|rfl|rfl|rfl<;>simp[Qe]
theorem Ydu (l:List Ev):ah n (Xk l)=True:=eq_true (Wv n l)
theorem Xnk (ρ:Nat->Nat)(l:List Ev):ay ρ (Xk l)=Xk l:=by
 rw[Zd];refine (map_congr_left (g:=id) fun x hx=>?_).trans (map_id _);obtain ⟨e,_,he⟩:=List.mem_flatMap.1 hx;simp[Ev.enc]at he;rcases he with rfl|rfl|rfl|rfl|rfl<;>simp[aA]
attribute [go_sem] Ydu Xnk xW
def Yc5 (o:List Int)(e:Ev):Option (List Int)×Int :=
 if Jd e.t e.s e.a e.b=false then (none,2)
 else
  let i:=(e.a*6+e.b).toNat
  if e.f=false/\o.getD i 0≠0 then (none,8)
  else if e.f=true/\o.getD i 0≠e.s+1 then (none,7)
  else (some (o.set i (if e.f then 0 else e.s+1)),0)
def Yew:List Int->List Ev->List Int×Int
 | o,[]=>(o,0)
 | o,e::l=>match Yc5 o e with
  | (some o',_)=>Yew o' l
  | (none,k)=>(List.replicate 18 0,k)
def Xmd (k:Nat)(hk:k<=8):Qx v k=UInt8.ofNat ((v/256 ^ k)%256).toNat:=by
 unfold Qx;rw[IntKind.wrap_u8];have e:min (8*(k:Int)).toNat 64=8*k:=by omega
 rw[e,Int.fdiv_eq_ediv_of_nonneg _ (Int.pow_nonneg aJ)];have e2:(2:Int) ^ (8*k)=256 ^ k:=by rw[Int.pow_mul];rfl
 rw[e2]
def Xia (j:Nat):v/256 ^ j/256=v/256 ^ (j+1):=by
 rw[Int.ediv_ediv_of_nonneg (Int.pow_nonneg aJ),Int.pow_succ]
def Qvy (h0:0<=v)(j:Nat):0<=v/256 ^ j/\v/256 ^ j<=v:=by
 have hp:(0:Int)<256 ^ j:=Int.pow_pos aJ;exact ⟨Int.ediv_nonneg h0 af,Int.ediv_le_self _ h0⟩
def Yg (gl:Nat->AV)(v:Int)(n:Nat)(h0:0<=v:=by omega)(h1:v<=9223372036854775807:=by omega)(hn:n<=8:=by decide) :
  PS Tryz.prog gl 144 [.int .i64 v,.int .i64 n] (.str (be v n)):=by
 refine V4.ps (ap rfl) (by simp[Qe]) fun c hN hg=>?_
 conv in aG _ _=>cbv
 refine Qa ?_
 refine Qu (fun j:Nat=>j≤n) (fun j=>⟨[(0,.int .i64 (v / 256 ^ j)),(1,.int .i64 ((n - j:Nat):Int)),(5,.str (be v j))],[],0⟩) (fun j=>n - j) V4.mixed hN
  ⟨0,by omega,[],by refine Qa ?_;simp[be]⟩ fun j hj=>?_
 refine Qa ?_;obtain ⟨b0,b1⟩:=Qvy v h0 j;refine Qb ?_ ?_<;>intro h2
 ·refine Qa ?_
  ((first|apply wY|apply wZ|apply w3|apply w5|apply w7|apply w8);(have aQ:=@Qj;refine XG ?_;clear aQ;((try with_reducible and_intros);all_goals try first|refine zm ?_|exact CL)))
  ·intro x hx;rw[mem_singleton]at hx;subst hx;exact rfl
  ·simp only[toB,map_cons,map_nil,length_cons,List.length_nil];omega
  have e1:(v/256 ^ j).tdiv 256=v/256 ^ (j+1):=by rw[Int.tdiv_eq_ediv_of_nonneg b0,Xia]
  have e2:(v/256 ^ j).tmod 256=(v/256 ^ j)%256:=Int.tmod_eq_emod_of_nonneg b0;obtain ⟨c0,c1⟩:=Qvy v h0 (j+1);refine ⟨j+1,by omega,⟨[],?_⟩,by omega⟩;rw[e1,e2];refine ⟨by rw[IntKind.wrap_i64];omega,by omega,?_⟩;simp only[be,Xmd v j af];simp only[toB,bC,IntKind.wrap_u8,map_cons,map_nil,List.cons_append,List.nil_append,Int.emod_emod]
 ·have:j=n:=by omega
  subst this;exact Qp
def wc (e:Ev):List UInt8:=be e.t 8++be (167772161+e.s) 4++be (3405803777+e.a) 4++be (1024+8*e.b) 2++be (1031+8*e.b) 2++be (if e.f then 2 else 1) 1
def Xeb (e:Ev):(wc e).length=21:=by simp[wc,Qj]
def Qz7 (e:Ev)(h:Jd e.t e.s e.a e.b=true):PS Tryz.prog gl 175 [.agg e.enc] (.str (wc e)):=by
 refine Qzf.ps (ap rfl) (by simp[Qe]) fun c hN hg=>?_
 conv in aG _ _=>cbv
 obtain ⟨t,s,a,b,f⟩:=e;simp[Jd]at h;simp only[Ev.enc];refine Qa ?_;cases f with
 | false =>
  refine Yc ?_;refine Qa ?_
  (have zC:=(Yg c.gl t 8);refine Qk zC @Qj ?_;clear zC)
  (have zC:=(Yg c.gl (167772161+s) 4);refine Qk zC @Qj ?_;clear zC)
  (have zC:=(Yg c.gl (3405803777+a) 4);refine Qk zC @Qj ?_;clear zC)
  (have zC:=(Yg c.gl (1024+8*b) 2);refine Qk zC @Qj ?_;clear zC)
  (have zC:=(Yg c.gl (1031+8*b) 2);refine Qk zC @Qj ?_;clear zC)
  (have zC:=(Yg c.gl 1 1);refine Qk zC @Qj ?_;clear zC)
  simp[wc]
 | true =>
  refine Yc ?_;refine Qa ?_
  (have zC:=(Yg c.gl t 8);refine Qk zC @Qj ?_;clear zC)
  (have zC:=(Yg c.gl (167772161+s) 4);refine Qk zC @Qj ?_;clear zC)
  (have zC:=(Yg c.gl (3405803777+a) 4);refine Qk zC @Qj ?_;clear zC)
  (have zC:=(Yg c.gl (1024+8*b) 2);refine Qk zC @Qj ?_;clear zC)
  (have zC:=(Yg c.gl (1031+8*b) 2);refine Qk zC @Qj ?_;clear zC)
  (have zC:=(Yg c.gl 2 1);refine Qk zC @Qj ?_;clear zC)
  simp[wc]
def Yhm:be 10 2=[0,10]:=by decide +kernel
def Yjm:be 1 4=[0,0,0,1]:=by decide +kernel
def Qo5 (seq time set:Int)(bs:List UInt8)(hl:bs.length<=10000000)(ht:0<=time)(hs:0<=set/\set<=65535) :
  PS Tryz.prog gl 173 [.int .i64 seq,.int .i64 time,.int .i64 set,.str bs] (Wz seq time set bs):=by
 refine Xbv.ps (ap rfl) (by unfold Wz;split<;>simp[Qe,ah]) fun c hN hg=>?_
 conv in aG _ _=>cbv
 refine Qa ?_;have e0:time.tmod 4294967296=time%4294967296:=Int.tmod_eq_emod_of_nonneg ht;refine Qb ?_ ?_<;>intro h1
 ·refine Qa ?_;unfold Wz;rw[aa af]
 ·refine Qa ?_
  (have zC:=(Yg c.gl (20+bs.length) 2);refine Qk zC @Qj ?_;clear zC)
  (have zC:=(Yg c.gl (time.tmod 4294967296) 4);refine Qk zC @Qj ?_;clear zC)
  (have zC:=(Yg c.gl seq 4);refine Qk zC @Qj ?_;clear zC)
  (have zC:=(Yg c.gl set 2);refine Qk zC @Qj ?_;clear zC)
  (have zC:=(Yg c.gl (4+bs.length) 2);refine Qk zC @Qj ?_;clear zC)
  unfold Wz j8;rw[am af,Yhm,Yjm];simp
def Un (l:List Ev):List UInt8:=l.flatMap wc
def AU (l:List Ev):(Un l).length=21*l.length:=by
 induction l with
 | nil=>rfl
 | cons e l ih=>simp[Un,Xeb]at ih ⊢;omega
def Qss (l:List Ev)(k:Nat)(h:k<l.length):Un (l.take (k+1))=Un (l.take k)++wc l[k]:=by
 rw[take_add_one,List.getElem?_eq_getElem h];simp only[Un,List.flatMap_append,Option.toList_some,List.flatMap_cons,List.flatMap_nil,List.append_nil]
def nD (t0:Int)(l:List Ev):Bool:=l.all fun e=>Jd e.t e.s e.a e.b&&e.t==t0
def pM (seq:Int):List Ev->AV
 | []=>.aR [.str [],.int .i64 7]
 | e::l=>if 64<l.length+1 then .aR [.str [],.int .i64 6] else if nD e.t (e::l)=true then Wz seq e.t 300 (Un (e::l)) else .aR [.str [],.int .i64 2]
def Xf9 (seq time set:Int)(bs:List UInt8):Qe n (Wz seq time set bs):=by unfold Wz;split<;>simp[Qe,ah]
def Qwu (seq:Int)(l:List Ev):Qe n (pM seq l):=by
 unfold pM;split
 ·simp[Qe,ah]
 ·split
  ·simp[Qe,ah]
  ·split
   ·exact Xf9 _ _ _ _ _
   ·simp[Qe,ah]
def Xb5 (l:List Ev)(kE:l.length<=4611686018427387904) :
  PS Tryz.prog gl 161 [.int .i64 seq,.isl l.length (Xk l)] (pM seq l):=by
 refine V1.ps (ap rfl) (Qwu _ _ _) fun c hN hg=>?_
 conv in aG _ _=>cbv
 have hl:=xW l;refine Qa ?_;refine Qb ?_ ?_<;>intro h1
 ·have:l=[]:=List.eq_nil_of_length_eq_zero af;subst this;refine Qa ?_;rfl
 obtain ⟨e0,l0,hL⟩:∃ e0 l0,e0::l0=l:=by
  cases l with
  | nil=>simp at h1
  | cons e l=>exact ⟨e,l,rfl⟩
 have iE:(Xk l).getD 0 .any=.int .i64 e0.t:=by
  have:=Qz1 (e0::l0) 0 aw 0 aJ;simp only[List.getElem_cons_zero,Ev.enc,List.getD_cons_zero,Nat.zero_mul,Nat.zero_add]at this;rw[<- hL];exact this
 refine Qa ?_;refine Qb ?_ ?_<;>intro h2
 ·refine Qa ?_;subst hL;simp only[pM];rw[am (by simp only[length_cons]at h2;omega)]
 have hlen:l.length<=64:=by omega
 have fx:¬ 64<l0.length+1:=by rw[<- hL]at hlen;simp only[length_cons]at hlen;omega
 generalize l=L at *
 refine Qa ?_
 refine Qu (fun k:Nat=>k≤L.length∧nD e0.t (L.take k)=true) (fun k=>⟨[(0,.int .i64 seq),(1,.isl L.length (Xk L)),(6,.str (Un (L.take k))),(15,.isl L.length (Xk L)),(16,.int .i64 L.length),(17,.int .i64 k)],[],0⟩) (fun k=>L.length - k) V1.mixed hN
  ⟨0,⟨by omega,rfl⟩,[],by refine Qa ?_;rfl⟩ fun k ⟨hk,bl⟩=>?_
 refine Qa ?_;refine Qb ?_ ?_<;>intro h3
 ·have bh:k < L.length:=by omega
  have aL:=RQ L k bh;have ec:=Qss L k bh;have fQ:nD e0.t (L.take (k+1))=(Jd L[k].t L[k].s L[k].a L[k].b&&L[k].t==e0.t):=by
   unfold nD at bl ⊢;rw[take_add_one,List.getElem?_eq_getElem bh,List.all_append,bl];simp
  have eE:(Jd L[k].t L[k].s L[k].a L[k].b&&L[k].t==e0.t)=false->nD e0.t L=false:=fun hb=>by
   unfold nD;rw[List.all_eq_false];exact ⟨L[k],getElem_mem _,by rw[hb];simp⟩
  have pZ:(Un (L.take k)).length=21*k:=by rw[AU];simp;omega
  have htx:=Qz7 c.gl L[k];generalize L[k]=e at *
  obtain ⟨t,sb,a,b,f⟩:=e;simp only[Ev.enc]at aL htx;refine Qd (An @hl @aL) ?_
  ((first|apply Yw|apply Yf|apply Xn|apply Xg)<;>(first|exact (Qye _ _ _ _ _ _)|(have aQ:=@aL;have bw:=@iE;refine XG ?_;clear aQ bw;first|exact rfl|exact True.intro|((try with_reducible and_intros);all_goals try first|refine zm ?_|exact CL))))
  refine Qb ?_ ?_<;>intro h4
  ·have hb:=eE (by
    simp only[qY]at h4;cases hg:Jd t sb a b
    ·rfl
    ·rw[am hg]at h4;simpa using h4)
   refine Qa ?_;subst hL;simp only[pM];rw[aa fx,aa (by rw[hb];simp)]
  ·have aV:Jd t sb a b=true:=by
    simp only[qY]at h4;by_cases hg:Jd t sb a b=true
    ·exact hg
    ·rw[aa hg]at h4;simp at h4
   have ht:t=e0.t:=by
    simp only[qY]at h4;rw[am aV]at h4;simpa using h4
   refine Qa ?_;refine Qk (htx aV) (An @pZ @Xeb) ?_;refine ⟨k+1,⟨by omega,by rw[fQ,aV,ht];simp⟩,⟨[],?_⟩,by omega⟩;exact Qi @ec
 ·have:k=L.length:=by omega
  subst this;rw[take_length]at bl ⊢;have hb:(Un L).length<=10000000:=by rw[AU];omega
  have ht:0<=e0.t:=by
   subst hL;simp[nD,Jd]at bl;omega
  have hm:=Qo5 c.gl seq e0.t 300 (Un L) hb ht af;have e2:pM seq L=Wz seq e0.t 300 (Un L):=by
   subst hL;simp only[pM];rw[aa fx,am bl]
  rw[e2];clear e2;unfold Wz at hm ⊢;refine Qd @iE ?_;split at hm
  ·refine Qk hm @iE ?_;rw[am (by assumption)]
  ·refine Qk hm @iE ?_;rw[aa (by assumption)]
def Xy8:FT Tryz.prog 92 Tryz.f92 (aG Tryz.prog Tryz.f92) [.t 2]:=.of Tryz.func92
def Ycq:FT Tryz.prog 130 Tryz.f130 (aG Tryz.prog Tryz.f130) [.t 4]:=.of Tryz.func130
def Yd7:FT Tryz.prog 132 Tryz.f132 (aG Tryz.prog Tryz.f132) [.cell 8 (.ag 10)]:=.of Tryz.func132
def Xr9:FT Tryz.prog 87 Tryz.f87 (aG Tryz.prog Tryz.f87) [.t 2]:=.of Tryz.func87
def Yv (ae st:Int):Int:=if ae=1 then 8 else if ae=17 then 20 else if st=2 then 60 else if st=1 then 4 else 6
def Xda (ae st:Int):PS Tryz.prog gl 130 [.int .i64 ae,.int .i64 st] (.int .i64 (Yv ae st)):=by
 refine Ycq.ps (ap rfl) (by simp[Qe]) fun c hN hg=>?_
 conv in aG _ _=>cbv
 (refine XG ?_;((try with_reducible and_intros);all_goals try first|refine zm ?_|exact CL))
 (refine Qb (fun h1=>?_) (fun h1=>?_)<;>try exact h1.elim)
 ·(refine XG ?_;((try with_reducible and_intros);all_goals try first|refine zm ?_|exact CL))
  simp_all [Yv]
 (refine XG ?_;((try with_reducible and_intros);all_goals try first|refine zm ?_|exact CL))
 (refine Qb (fun h2=>?_) (fun h2=>?_)<;>try exact h2.elim)
 ·(refine XG ?_;((try with_reducible and_intros);all_goals try first|refine zm ?_|exact CL))
  simp_all [Yv]
 (refine XG ?_;((try with_reducible and_intros);all_goals try first|refine zm ?_|exact CL))
 (refine Qb (fun h3=>?_) (fun h3=>?_)<;>try exact h3.elim)
 ·(refine XG ?_;((try with_reducible and_intros);all_goals try first|refine zm ?_|exact CL))
  simp_all [Yv]
 (refine XG ?_;((try with_reducible and_intros);all_goals try first|refine zm ?_|exact CL))
 (refine Qb (fun h4=>?_) (fun h4=>?_)<;>try exact h4.elim)
 ·(refine XG ?_;((try with_reducible and_intros);all_goals try first|refine zm ?_|exact CL))
  simp_all [Yv]
 ·(refine XG ?_;((try with_reducible and_intros);all_goals try first|refine zm ?_|exact CL))
  simp_all [Yv]
def Ul (ae st sd du fl:Int)(bn:Bool)(now:Int):Int×Int×Int :=
 let b (n:Int):=bits .and .i64 fl n
 let side:Int:=if bn then 1 else 0
 let x:Int × Int × Bool:=if ae=6 then
   (if b 4≠0 then (4,sd,st != 4) else if st=1∧bn=true∧b 18=18 then (2,sd,true) else if st=2∧b 1≠0 then (3,side,true)
    else if st=3/\b 1≠0/\sd≠side then (4,sd,true) else if st=1 then (st,sd,!bn&&b 2 != 0) else (st,sd,st==2))
  else (st,sd,!(bn&&ae==17))
 (x.1,x.2.1,if x.2.2 then IntKind.i64.wrap (now+Yv ae x.1) else du)
def Zi (p s i a pt r rp st sd du:Int):List AV:=[.int .i64 p,.int .i64 s,.int .i64 i,.int .i64 a,.int .i64 pt,.int .i64 r,.int .i64 rp,.int .i64 st,.int .i64 sd,.int .i64 du]
def Xfb (p s i a pt r rp st sd du:Int)(f1 f2 f3 f4 f5 f6 f7 fl f9 f10 f11:Int)(bd:List UInt8)(bn:Bool)(now:Int) :
  PS Tryz.prog gl 132 [.agg (Zi p s i a pt r rp st sd du),.agg [.int .i64 f1,.int .i64 f2,.int .i64 f3,.int .i64 f4,.int .i64 f5,.int .i64 f6,.int .i64 f7,.int .i64 fl,.int .i64 f9,.int .i64 f10,.int .i64 f11,.str bd],.bool bn,.int .i64 now]
   (.agg (Zi p s i a pt r rp (Ul p st sd du fl bn now).1 (Ul p st sd du fl bn now).2.1 (Ul p st sd du fl bn now).2.2)):=by
 refine Yd7.ps (ap rfl) (by simp[Qe,ah,Zi]) fun c hN hg=>?_
 conv in aG _ _=>cbv
 (have aQ:=@Zi.eq_1;refine XG ?_;clear aQ;((try with_reducible and_intros);all_goals try first|refine zm ?_|exact CL))
 (repeat' (first|((refine Qb (fun hh=>?_) (fun hh=>?_)<;>try exact hh.elim)<;>(have aQ:=@Zi.eq_1;refine XG ?_;clear aQ;((try with_reducible and_intros);all_goals try first|refine zm ?_|exact CL)))|((first|apply Yw|apply Yf|apply Xn|apply Xg)<;>(first|exact (Xda _ _ _)|(have aQ:=@Zi.eq_1;refine XG ?_;clear aQ;first|exact rfl|exact True.intro|((try with_reducible and_intros);all_goals try first|refine zm ?_|exact CL))))))
 all_goals simp_all [Ul]
 all_goals (split<;>simp_all)
structure Fl where
 map:Mp
 rem:Int
 rport:Int
 st:Int
 side:Int
 due:Int
 deriving DecidableEq
def Fl.enc (f:Fl):List AV:=Zi f.map.ae f.map.s f.map.aF f.map.a f.map.port f.rem f.rport f.st f.side f.due
structure Rp where
 code:Int
 frame:List UInt8
 inner:Bool
 log:List UInt8
def Rp.enc (r:Rp):List AV:=[.int .i64 r.code,.str r.frame,.bool r.inner,.str r.log]
def bJ (e:Int):Rp:=⟨e,[],false,[]⟩
structure Ac where
 kind:Int
 n:Int
 draw:Int
 frame:List UInt8
def Ac.enc (a:Ac):List AV:=[.int .i64 a.kind,.int .i64 a.n,.int .i64 a.draw,.str a.frame]
structure NS where
 tb:Tb
 fl:List (Int×Fl)
 bG:Int
 now:Nat
 told:Nat
 ref:Nat
 bm:Nat
 loose:Bool
def NS.keys (S:NS):List Int:=S.fl.map (·.1)
def NS.aX (S:NS):List Tm:=S.fl.map fun q=>⟨q.1,q.2.due.toNat⟩
def NS.findF (S:NS)(m:Mp)(r rp:Int):Int:=match S.fl.find? (fun q=>decide (q.2.map=m)&&q.2.rem==r&&q.2.rport==rp) with
 | some q=>q.1
 | none=>0
def Fl.next (f:Fl)(p:Pk)(bn:Bool)(now:Int):Fl :=
 let x:=Ul f.map.ae f.st f.side f.due p.flags bn now
 { f with st:=x.1,side:=x.2.1,due:=x.2.2 }
def NS.goes (S:NS)(k:Int)(p:Pk)(bn:Bool):NS:={ S with fl:=S.fl.map fun q=>if q.1=k then (q.1,q.2.next p bn S.now) else q }
def NS.begin (S:NS)(f:Fl):NS:={ S with bG:=S.bG+1,fl:=S.fl++[(S.bG+1,{ f with due:=S.now+Yv f.map.ae f.st })] }
def NS.ev (S:NS)(m:Mp)(free:Bool):Ev:=⟨S.now,m.s,m.a,Xc m.port,free⟩
def nE (told:Nat)(l:List Ev):List UInt8:=if l=[] then [] else (if told=0 then j8 0 0 2 (jx 6) else [])++j8 told (l.headD ⟨0,0,0,0,false⟩).t 300 (Un l)
def NS.log (S:NS)(l:List Ev):NS:={ S with told:=S.told+l.length }
def Wr (f:List UInt8)(side addr port:Int):List UInt8 :=
 if cD f≠0 then [] else if Ky (aB f) side addr port≠0 then [] else Ub f (aB f).ae (aB f).aN (vt side) (vu (aB f).ae side) addr port
def NS.refuse (S:NS)(f:List UInt8)(e:Int):Rp×NS :=
 if S.ref=0\/cD f≠0 then (bJ e,S) else (⟨e,xn f (w4 f 12) S.ref,true,[]⟩,{ S with ref:=S.ref-1 })
def NS.aF (S:NS)(f:List UInt8):Rp×NS :=
 if cD f≠0 then (bJ (cD f),S) else
 let p:=aB f
 let a:=p.dst-3405803777
 if a<0\/3<=a then (bJ 7,S) else
 if p.ae=1/\p.flags≠0 then (bJ 4,S) else
 if p.aN=1 then (bJ 12,S) else
 match S.tb.maps.find? (Ja p.ae a p.av) with
 | none=>(bJ 7,S)
 | some m =>
  let go:Rp:=⟨0,Wr f 1 (167772161+m.s) m.aF,true,[]⟩
  if S.findF m p.aE p.aj≠0 then (go,S.goes (S.findF m p.aE p.aj) p true) else
  if S.loose=false/\(S.fl.any fun q=>decide (q.2.map=m)&&q.2.rem==p.aE)=false then (bJ 11,S) else
  if p.ae≠17\/48<=S.fl.length then (bJ 11,S) else
  (go,S.begin ⟨m,p.aE,p.aj,2,0,0⟩)
def NS.eZ (S:NS)(f:List UInt8)(m:Mp)(es:List Ev):Rp×NS :=
 let g:=Wr f 0 (3405803777+m.a) m.port
 let S1:=S.log es
 let to:=(aB f).dst-3405803777
 if 0≤to∧to < 3 then
  let x:=S1.aF g
  ({ x.1 with log:=nE S.told es },x.2)
 else (⟨0,g,false,nE S.told es⟩,S1)
def Wc (ae:Int):Int:=if ae=6 then 1 else 2
def xX (ae flags:Int):Bool :=
 if ae=17 then true else if ae=1 then flags==8 else decide (ae=6)&&bits .and .i64 flags 23==2
noncomputable def NS.out (S:NS)(f:List UInt8)(draw:Int):Rp×NS :=
 if cD f≠0 then (bJ (cD f),S) else
 let p:=aB f
 let s:=p.aE-167772161
 if s<0\/8<=s then (bJ 7,S) else
 if p.ae=1/\p.flags≠8 then (bJ 4,S) else
 if p.aN=1 then (bJ 12,S) else
 let k:=match S.tb.maps.find? (Xz p.ae s p.aj) with
  | some m=>S.findF m p.dst p.av
  | none=>0
 if k≠0 then
  match S.tb.maps.find? (Xz p.ae s p.aj) with
  | some m=>(S.goes k p false).eZ f m []
  | none=>(bJ 0,S)
 else
  if xX p.ae p.flags=false then (bJ 11,S) else
  if 48<=S.fl.length then S.refuse f 6 else
  let o:=S.tb.ca p.ae s p.aj draw
  if o.2.2.2≠0 then S.refuse f o.2.2.2 else
  let S1:NS:={ S with tb:=o.1 }
  (S1.begin ⟨o.2.1,p.dst,p.av,Wc p.ae,0,0⟩).eZ f o.2.1 (if o.2.2.1 then [S1.ev o.2.1 false] else [])
noncomputable def cN (x:NS×List Ev)(k:Int):NS×List Ev :=
 match x.1.fl.find? (fun q=>q.1==k) with
 | none=>x
 | some q =>
  let S1:NS:={ x.1 with fl:=x.1.fl.filter fun r=>!(r.1==k) }
  if (S1.fl.any fun r=>decide (r.2.map=q.2.map)) then (S1,x.2) else
  let c:=S1.tb.cls q.2.map
  ({ S1 with tb:=c.1 },if c.2.1 then x.2++[S1.ev q.2.map true] else x.2)
noncomputable def NS.tick (S:NS)(d:Int):Rp×NS :=
 if d<1\/549755813888-S.now<d then (bJ 2,S) else
 let S1:NS:={ S with now:=S.now+d.toNat,ref:=min 4 (S.ref+min d.toNat 4) }
 let x:=(a6 S.aX (S.now+d.toNat+1)).foldl cN (S1,[])
 (⟨0,[],false,nE S.told x.2⟩,x.1.log x.2)
noncomputable def NS.step (S:NS)(a:Ac):Rp×NS :=
 if 300<=S.bm then (bJ 6,S) else
 let S:NS:={ S with bm:=S.bm+1 }
 if a.kind=1 then S.out a.frame a.draw else
 if a.kind=2 then S.aF a.frame else
 if a.kind=3 then S.tick a.n else
 if a.kind=4∨a.kind=5 then
  let d:=S.tb.ai.drain a.n (decide (a.kind=4))
  (bJ d.2,if d.2=0 then { S with tb:={ S.tb with ai:=d.1 } } else S)
 else (bJ 4,S)
def NS.new (loose:Bool):NS:=⟨⟨⟨List.replicate 18 0,List.replicate 3 false⟩,List.replicate 8 0,[]⟩,[],0,0,0,4,0,loose⟩
def Xzs (p q:Int×Fl):Prop:=p.2.map=q.2.map/\p.2.rem=q.2.rem/\p.2.rport=q.2.rport
structure NJ (S:NS):Prop where
 gt:GT S.tb
 wf:S.tb.wf
 ids:∀ q ∈ S.fl,1<=q.1/\q.1<=S.bG
 dS:S.fl.Pairwise fun p q=>p.1≠q.1
 len:S.fl.length<=48
 kp:∀ q ∈ S.fl,q.2.map ∈ S.tb.maps
 has:∀ m ∈ S.tb.maps,∃ q ∈ S.fl,q.2.map=m
 rA:S.fl.Pairwise fun p q=>¬ Xzs p q
 now:S.now<=549755813888
 lg:0<=S.bG
 ref:S.ref<=4
structure NI (S:NS):Prop extends NJ S where
 due:∀ q ∈ S.fl,(S.now:Int)<q.2.due/\q.2.due<=S.now+60
def NJ.ok {S:NS}(h:NJ S):S.tb.ok:=h.gt.ok h.wf
def Gx (p s:Int):4<=Yv p s/\Yv p s<=60:=by
 unfold Yv
 (repeat' split)<;>omega
def Qyn (ae st sd du fl:Int)(bn:Bool){now:Int}(h0:0<=now)(h1:now<=549755813888):(Ul ae st sd du fl bn now).2.2=du\/∃ d,4<=d/\d<=60/\(Ul ae st sd du fl bn now).2.2=now+d:=by
 have key:∀ x:Int×Int×Bool,(if x.2.2=true then IntKind.i64.wrap (now+Yv ae x.1) else du)=du\/∃ d,4<=d/\d<=60/\(if x.2.2=true then IntKind.i64.wrap (now+Yv ae x.1) else du)=now+d:=fun x=>by
  split
  ·right;have:=Gx ae x.1;refine ⟨Yv ae x.1,this.1,this.2,?_⟩;rw[IntKind.wrap_i64];omega
  ·exact .inl rfl
 exact key _
def NJ.begin {S:NS}(h:NJ S)  (hg:GT tb)(hw:tb.wf)(cz:∀ m ∈ S.tb.maps,m ∈ tb.maps){f:Fl}(cf:∀ m ∈ tb.maps,m ∈ S.tb.maps\/m=f.map)(aK:f.map ∈ tb.maps)(br:∀ q ∈ S.fl,¬ (q.2.map=f.map/\q.2.rem=f.rem/\q.2.rport=f.rport))(hl:S.fl.length<48):NJ (({ S with tb:=tb }:NS).begin f) where
 gt:=hg
 wf:=hw
 ids q hq:=by
  have h0:=h.lg;rcases mem_append.1 hq with hq|hq
  ·have:=h.ids q hq;show _/\q.1<=S.bG+1;omega
  ·obtain rfl:=mem_singleton.1 hq;show 1<=S.bG+1/\S.bG+1<=S.bG+1;omega
 dS:=by
  refine List.pairwise_append.2 ⟨h.dS,by simp,fun p hp q hq=>?_⟩;obtain rfl:=mem_singleton.1 hq;have:=h.ids p hp;show p.1≠S.bG+1;omega
 len:=by
  show (S.fl++[_]).length<=48;rw[List.length_append];simp;omega
 kp q hq:=by
  rcases mem_append.1 hq with hq|hq
  ·exact cz _ (h.kp q hq)
  ·obtain rfl:=mem_singleton.1 hq;exact aK
 has m hm:=by
  rcases cf m hm with h1|rfl
  ·obtain ⟨q,hq,e⟩:=h.has m h1;exact ⟨q,List.mem_append_left _ hq,e⟩
  ·exact ⟨_,List.mem_append_right _ (mem_singleton.2 rfl),rfl⟩
 rA:=by
  refine List.pairwise_append.2 ⟨h.rA,by simp,fun p hp q hq=>?_⟩;obtain rfl:=mem_singleton.1 hq;exact br p hp
 now:=h.now
 lg:=by have:=h.lg;show 0<=S.bG+1;omega
 ref:=h.ref
def NI.begin {S:NS}(h:NI S)  (hg:GT tb)(hw:tb.wf)(cz:∀ m ∈ S.tb.maps,m ∈ tb.maps){f:Fl}(cf:∀ m ∈ tb.maps,m ∈ S.tb.maps\/m=f.map)(aK:f.map ∈ tb.maps)(br:∀ q ∈ S.fl,¬ (q.2.map=f.map/\q.2.rem=f.rem/\q.2.rport=f.rport))(hl:S.fl.length<48):NI (({ S with tb:=tb }:NS).begin f) where
 toNJ:=h.toNJ.begin hg hw cz cf aK br hl
 due q hq:=by
  rcases mem_append.1 hq with hq|hq
  ·exact h.due q hq
  ·obtain rfl:=mem_singleton.1 hq;have:=Gx f.map.ae f.st;show (S.now:Int)<S.now+Yv f.map.ae f.st/\(S.now:Int)+Yv f.map.ae f.st<=S.now+60;omega
def RT {S:NS}{k:Int}{p:Pk}{bn:Bool}{q:Int×Fl}(hq:q ∈ (S.goes k p bn).fl):∃ r ∈ S.fl,q.1=r.1/\q.2.map=r.2.map/\q.2.rem=r.2.rem/\q.2.rport=r.2.rport/\(q.2=r.2\/q.2=r.2.next p bn S.now):=by
 obtain ⟨r,hr,rfl⟩:=mem_map.1 hq;refine ⟨r,hr,?_⟩;split
 ·exact ⟨rfl,rfl,rfl,rfl,.inr rfl⟩
 ·exact ⟨rfl,rfl,rfl,rfl,.inl rfl⟩
def NI.goes {S:NS}(h:NI S)(k:Int)(p:Pk)(bn:Bool):NI (S.goes k p bn) where
 gt:=h.gt
 wf:=h.wf
 ids q hq:=by
  obtain ⟨r,hr,e,_⟩:=RT hq;rw[e];exact h.ids r hr
 dS:=by
  refine List.pairwise_map.2 (h.dS.imp fun {a b} As=>?_)
  (repeat' split)<;>exact As
 len:=by show (S.fl.map _).length<=48;rw[List.length_map];exact h.len
 kp q hq:=by
  obtain ⟨r,hr,_,e,_⟩:=RT hq;rw[e];exact h.kp r hr
 has m hm:=by
  obtain ⟨q,hq,e⟩:=h.has m hm;refine ⟨_,mem_map.2 ⟨q,hq,rfl⟩,?_⟩;split<;>exact e
 rA:=by
  refine List.pairwise_map.2 (h.rA.imp fun {a b} As=>?_)
  (repeat' split)<;>exact As
 now:=h.now
 lg:=h.lg
 ref:=h.ref
 due q hq:=by
  obtain ⟨r,hr,_,_,_,_,e⟩:=RT hq;have hd:=h.due r hr;rcases e with e|e
  ·rw[e];exact hd
  ·rw[e];rcases Qyn r.2.map.ae r.2.st r.2.side r.2.due p.flags bn (now:=S.now) af (by have:=h.now;omega) with e2|⟨d,h1,h2,e2⟩
   ·show (S.now:Int)<(Ul _ _ _ _ _ _ _).2.2/\(Ul _ _ _ _ _ _ _).2.2<=S.now+60;rw[e2];exact hd
   ·show (S.now:Int)<(Ul _ _ _ _ _ _ _).2.2/\(Ul _ _ _ _ _ _ _).2.2<=S.now+60;rw[e2];omega
def RU {S:NS}  {r rp:Int}(h0:∀ q ∈ S.fl,1<=q.1)(h:S.findF m r rp=0):∀ q ∈ S.fl,¬ (q.2.map=m/\q.2.rem=r/\q.2.rport=rp):=by
 intro q hq ⟨e1,e2,e3⟩;unfold NS.findF at h;split at h
 ·rename_i x hx;have:=h0 x (List.mem_of_find?_eq_some hx);omega
 ·rename_i hx;have:=find?_eq_none.1 hx q hq;simp[e1,e2,e3]at this
def NJ.d4 {x:NS×List Ev}(h:NJ x.1)(k:Int):NJ (cN x k).1:=by
 obtain ⟨S,es⟩:=x;unfold cN;dsimp only at h ⊢;cases hf:S.fl.find? (fun q=>q.1==k) with
 | none=>exact h
 | some q =>
  have hq:=List.mem_of_find?_eq_some hf;have hk:q.1=k:=by simpa using List.find?_some hf
  have cz:(S.fl.filter fun r=>!(r.1==k)).Sublist S.fl:=List.filter_sublist;have bN:∀ r,r ∈ (S.fl.filter fun r=>!(r.1==k)) ↔ r ∈ S.fl/\r.1≠k:=fun r=>by simp
  dsimp only;split
  ·rename_i fa;obtain ⟨r,hr,er⟩:=any_eq_true.1 fa;have er:r.2.map=q.2.map:=by simpa using er
   exact ⟨h.gt,h.wf,fun r hr=>h.ids r (cz.subset hr),h.dS.sublist cz,Nat.le_trans cz.length_le h.len,fun r hr=>h.kp r (cz.subset hr),fun m hm=>by
    obtain ⟨p,hp,e⟩:=h.has m hm;by_cases lY:p.1=k
    ·have:p=q:=by
      have iA:=pairwise_iff_getElem.1 h.dS;obtain ⟨i,hi,rfl⟩:=getElem_of_mem hp;obtain ⟨j,hj,rfl⟩:=getElem_of_mem hq;rcases Nat.lt_trichotomy i j with h1|h1|h1
      ·exact (iA i j hi hj h1 (by rw[lY,hk])).elim
      ·subst h1;rfl
      ·exact (iA j i hj hi h1 (by rw[lY,hk])).elim
     subst this;exact ⟨r,hr,er.trans e⟩
    ·exact ⟨p,(bN p).2 ⟨hp,lY⟩,e⟩,h.rA.sublist cz,h.now,h.lg,h.ref⟩
  ·rename_i fa;obtain ⟨i,hi,RV,g1,g2,g3,g4⟩:=h.gt.cls h.wf (h.kp q hq);have br:∀ r ∈ (S.fl.filter fun r=>!(r.1==k)),r.2.map≠q.2.map:=fun r hr e=>fa (any_eq_true.2 ⟨r,hr,by simpa using e⟩);have CK:∀ o ∈ S.tb.maps.eraseIdx i,o≠q.2.map:=fun o ho e=>by
    have:=find?_eq_none.1 (Yjd h.gt RV) o ho;rw[e]at this;exact this (Qpl _)
   exact ⟨g1,g2,fun r hr=>h.ids r (cz.subset hr),h.dS.sublist cz,Nat.le_trans cz.length_le h.len,fun r hr=>by
     rw[g3];obtain ⟨j,hj,e⟩:=getElem_of_mem (h.kp r (cz.subset hr));refine List.mem_eraseIdx_iff_getElem.2 ⟨j,hj,fun e2=>?_,e⟩;subst e2;rw[List.getElem?_eq_getElem hj]at RV;exact br r hr (e.symm.trans (Option.some.inj RV)),fun m hm=>by
     have lH:m ∈ S.tb.maps.eraseIdx i:=by rw[<- g3];exact hm
     obtain ⟨p,hp,e⟩:=h.has m (List.mem_of_mem_eraseIdx lH);refine ⟨p,(bN p).2 ⟨hp,fun lY=>?_⟩,e⟩;have:p=q:=by
      have iA:=pairwise_iff_getElem.1 h.dS;obtain ⟨i,hi,rfl⟩:=getElem_of_mem hp;obtain ⟨j,hj,rfl⟩:=getElem_of_mem hq;rcases Nat.lt_trichotomy i j with h1|h1|h1
      ·exact (iA i j hi hj h1 (by rw[lY,hk])).elim
      ·subst h1;rfl
      ·exact (iA j i hj hi h1 (by rw[lY,hk])).elim
     subst this;exact CK m lH e.symm,h.rA.sublist cz,h.now,h.lg,h.ref⟩
def Fl.zero:List AV:=[.int .i64 0,.int .i64 0,.int .i64 0,.int .i64 0,.int .i64 0,.int .i64 0,.int .i64 0,.int .i64 0,.int .i64 0,.int .i64 0]
def gD (l:List (Int×Fl)):List (AV×AV):=l.map fun q=>(.int .i64 q.1,.agg q.2.enc)
def oI:cu Tryz.prog 89 false [.int .i64] (.agg Fl.zero):=cu.mk' (by kernel_rfl)
structure NB (S:NS):Prop where
 wf:S.tb.wf
 ids:∀ q ∈ S.fl,1<=q.1/\q.1<=S.bG
 dS:S.fl.Pairwise fun p q=>p.1≠q.1
 now:S.now<=549755813888
 lg:0<=S.bG
def NJ.nb {S:NS}(h:NJ S):NB S:=⟨h.wf,h.ids,h.dS,h.now,h.lg⟩
def NB.pN {S:NS}(h:NB S)  (hw:tb.wf):NB { S with tb:=tb }:=⟨hw,h.ids,h.dS,h.now,h.lg⟩
def NS.tl (S:NS):List AV:=[.mp 68,.sl 1 69 0 S.fl.length S.fl.length,.int .i64 S.bG,.ptr 0 0,.int .i64 S.told,.int .i64 S.ref,.int .i64 S.bm,.bool S.loose]
def NS.cells (S:NS):List AV:=S.tb.enc++S.tl
def Qo (S:NS)(T:WT):List (Nat×Bk):=(67,.cells S.cells)::(68,.az (gD S.fl) false)::(69,.cells (Ql S.keys))::T.hb
def NS.bb {S:NS}(h:S.tb.wf):S.cells.length=38:=by simp[NS.cells,NS.tl,Tb.au h]
def NS.gV {S:NS}(h:S.tb.wf):S.cells.take 30=S.tb.enc:=by
 unfold NS.cells;rw[<- Tb.au h,List.take_left]
def NS.cL {S:NS}(h:S.tb.wf)(j:Nat):S.cells.getD (30+j) .any=S.tl.getD j .any:=by
 unfold NS.cells;rw[<- Tb.au h];simp[List.getD,List.getElem?_append_right]
def NS.dQ {S:NS}(h:S.tb.wf)(j:Nat)(v:AV):S.cells.set (30+j) v=S.tb.enc++S.tl.set j v:=by
 unfold NS.cells;rw[List.set_append,aa (by rw[Tb.au h];omega),Tb.au h,Nat.add_sub_cancel_left]
def NS.fR {S:NS}(h:S.tb.wf):S.cells.getD 30 .any=.mp 68:=NS.cL h 0
def NS.lR {S:NS}(h:S.tb.wf):S.cells.getD 31 .any=.sl 1 69 0 S.fl.length S.fl.length:=NS.cL h 1
def NS.LF {S:NS}(h:S.tb.wf):S.cells.getD 32 .any=.int .i64 S.bG:=NS.cL h 2
def NS.jJ {S:NS}(h:S.tb.wf):S.cells.getD 33 .any=.ptr 0 0:=NS.cL h 3
def NS.tj {S:NS}(h:S.tb.wf):S.cells.getD 34 .any=.int .i64 S.told:=NS.cL h 4
def NS.we {S:NS}(h:S.tb.wf):S.cells.getD 35 .any=.int .i64 S.ref:=NS.cL h 5
def NS.Gy {S:NS}(h:S.tb.wf):S.cells.getD 36 .any=.int .i64 S.bm:=NS.cL h 6
def NS.xY {S:NS}(h:S.tb.wf):S.cells.getD 37 .any=.bool S.loose:=NS.cL h 7
def Xlt (l:List (Int×Fl)):∀ q ∈ gD l,Qe n q.1/\Qe n q.2:=fun q hq=>by
 obtain ⟨t,_,rfl⟩:=mem_map.1 hq;simp[Qe,ah,Fl.enc,Zi]
def NS.tm (S:NS):ah 70 S.cells:=by
 simp[NS.cells,NS.tl,BW,Tb.cg,ah,Qe]
def Qn {S:NS}{T:WT}(hT:T.wf):HL (Qo S T) 70 where
 mem q hq:=by
  rcases mem_cons.1 hq with rfl|hq
  ·exact ⟨(by decide:67<70),NS.tm S⟩
  rcases mem_cons.1 hq with rfl|hq
  ·exact ⟨(by decide:68<70),Xlt 70 _⟩
  rcases mem_cons.1 hq with rfl|hq
  ·exact ⟨(by decide:69<70),by simp[bV,Uz]⟩
  ·have:=(WT.iq hT).mem q hq;exact ⟨by omega,rq aJ this.2⟩
 mh b hb:=by
  by_cases h:b<67
  ·obtain ⟨q,hq,e⟩:=(WT.iq hT).mh b h;exact ⟨q,by simp[Qo,hq],e⟩
  ·rcases (by omega:b=67∨b=68∨b=69) with rfl|rfl|rfl
   ·exact ⟨_,mem_cons_self,rfl⟩
   ·exact ⟨_,mem_cons_of_mem _ mem_cons_self,rfl⟩
   ·exact ⟨_,mem_cons_of_mem _ (mem_cons_of_mem _ mem_cons_self),rfl⟩
 self q hq:=by
  unfold Qo;rcases mem_cons.1 hq with rfl|hq
  ·rfl
  rcases mem_cons.1 hq with rfl|hq
  ·rfl
  rcases mem_cons.1 hq with rfl|hq
  ·rfl
  ·have h1:=((WT.iq hT).mem q hq).1;rw[Qf,aa af,Qf,aa af,Qf,aa af,((WT.iq hT).live h1 70).1];exact (WT.iq hT).self q hq
def Yfd:FT Tryz.prog 20 Tryz.f20 (aG Tryz.prog Tryz.f20) [.cell 4 (.ag 4)]:=.of Tryz.func20
def Qy9:FT Tryz.prog 86 Tryz.f86 (aG Tryz.prog Tryz.f86) [.t 8]:=.of Tryz.func86
def Xh0:FT Tryz.prog 88 Tryz.f88 (aG Tryz.prog Tryz.f88) [.cell 6 (.ag 4)]:=.of Tryz.func88
def Xst:FT Tryz.prog 90 Tryz.f90 (aG Tryz.prog Tryz.f90) [.t 6]:=.of Tryz.func90
def Xm0:FT Tryz.prog 91 Tryz.f91 (aG Tryz.prog Tryz.f91) []:=.of Tryz.func91
def Qvt:FT Tryz.prog 93 Tryz.f93 (aG Tryz.prog Tryz.f93) []:=.of Tryz.func93
def Yau:FT Tryz.prog 95 Tryz.f95 (aG Tryz.prog Tryz.f95) [.t 4]:=.of Tryz.func95
def Yc4:FT Tryz.prog 97 Tryz.f97 (aG Tryz.prog Tryz.f97) [.t 5]:=.of Tryz.func97
def Xrw:FT Tryz.prog 100 Tryz.f100 (aG Tryz.prog Tryz.f100) [.t 3]:=.of Tryz.func100
def Xoa:FT Tryz.prog 101 Tryz.f101 (aG Tryz.prog Tryz.f101) [.t 4]:=.of Tryz.func101
def Ybh:FT Tryz.prog 58 Tryz.f58 (aG Tryz.prog Tryz.f58) [.cell 4 (.ag 4)]:=.of Tryz.func58
def Yhh:FT Tryz.prog 59 Tryz.f59 (aG Tryz.prog Tryz.f59) [.cell 4 (.ag 4)]:=.of Tryz.func59
def RX:FT Tryz.prog 60 Tryz.f60 (aG Tryz.prog Tryz.f60) [.cell 4 (.ag 4)]:=.of Tryz.func60
def Ye6:FT Tryz.prog 28 Tryz.f28 (aG Tryz.prog Tryz.f28) [.t 2]:=.of Tryz.func28
def RY:FT Tryz.prog 25 Tryz.f25 (aG Tryz.prog Tryz.f25) [.t 4,.t 5]:=.of Tryz.func25
def Yd1:FT Tryz.prog 96 Tryz.f96 (aG Tryz.prog Tryz.f96) [.t 4]:=.of Tryz.func96
def LG:FT Tryz.prog 136 Tryz.f136 (aG Tryz.prog Tryz.f136) [.t 4]:=.of Tryz.func136
def Xf7:FT Tryz.prog 99 Tryz.f99 (aG Tryz.prog Tryz.f99) [.t 4]:=.of Tryz.func99
def Da (l:List (Int×Fl)):Wt false [.int .i64] (gD l):=fun q hq=>by
 obtain ⟨t,_,rfl⟩:=mem_map.1 hq;rfl
def LH (l:List (Int×Fl))(x:Int):fu (gD l) (.int .i64 x)=l.findIdx? fun q=>q.1==x:=by
 unfold fu gD
 induction l with
 | nil=>rfl
 | cons t D ih =>
  simp only[map_cons,List.findIdx?_cons];rw[ih];by_cases h:t.1=x
  ·simp[h]
  ·simp[h]
def RZ {l:List (Int×Fl)}(hd:l.Pairwise fun p q=>p.1≠q.1)  (hi:i<l.length):l.findIdx? (fun q=>q.1==l[i].1)=some i:=by
 rw[List.findIdx?_eq_some_iff_getElem];refine ⟨hi,by simp,fun j hj=>?_⟩;have:=(pairwise_iff_getElem.1 hd) j i af hi hj;simpa using this
def Qx3 {l:List (Int×Fl)}(hd:l.Pairwise fun p q=>p.1≠q.1)  (hi:i<l.length)(z:AV):Kg (gD l) (.int .i64 l[i].1) z=.agg l[i].2.enc:=by
 unfold Kg;rw[LH,RZ hd hi];simp[gD,List.getD,hi]
def Xyf {l:List (Int×Fl)}{x:Int}(h:∀ q ∈ l,q.1≠x)(f:Fl):Jy (gD l) (.int .i64 x) (.agg f.enc)=gD (l++[(x,f)]):=by
 unfold Jy;rw[LH,List.findIdx?_eq_none_iff.2 fun t ht=>by simpa using h t ht];simp[gD]
def Yb2 {l:List (Int×Fl)}(hd:l.Pairwise fun p q=>p.1≠q.1)  (hi:i<l.length)(f:Fl):Jy (gD l) (.int .i64 l[i].1) (.agg f.enc)=gD (l.map fun q=>if q.1=l[i].1 then (q.1,f) else q):=by
 unfold Jy;rw[LH,RZ hd hi];refine List.ext_getElem (by simp[gD]) fun j h1 h2=>?_;have hj:j<l.length:=by simpa [gD] using h1
 simp only[gD,List.getElem_set,List.getElem_map];by_cases e:i=j
 ·subst e;simp
 ·rw[aa e,aa];intro e2;have hp:=pairwise_iff_getElem.1 hd;rcases Nat.lt_or_gt_of_ne e with h|h
  ·exact hp i j hi hj h e2.symm
  ·exact hp j i hj hi h e2
def Quk (S:NS)  (hi:i<S.fl.length):(Ql S.keys).getD i .any=.int .i64 S.fl[i].1:=by
 simp[Ql,NS.keys,List.getD,hi]
def wi (S:NS):(Ql S.keys).length=S.fl.length:=by simp[Ql,NS.keys]
def Xz5 {S:NS}  {r rp:Int}  (hi:i<S.fl.length)(br:∀ q ∈ S.fl.take i,¬ (q.2.map=m/\q.2.rem=r/\q.2.rport=rp))(h:S.fl[i].2.map=m/\S.fl[i].2.rem=r/\S.fl[i].2.rport=rp):S.findF m r rp=S.fl[i].1:=by
 have hs:S.fl=S.fl.take i++S.fl[i]::S.fl.drop (i+1):=by rw[<- List.drop_eq_getElem_cons hi,List.take_append_drop]
 have hf:S.fl.find? (fun q=>decide (q.2.map=m)&&q.2.rem==r&&q.2.rport==rp)=some S.fl[i]:=by
  conv=>lhs;rw[hs]
  rw[List.find?_append,find?_eq_none.2 fun q hq=>by have:=br q hq;simpa using this,List.find?_cons];simp[h.1,h.2.1,h.2.2]
 unfold NS.findF;rw[hf]
def Xi1 {S:NS}  {r rp:Int}(br:∀ q ∈ S.fl,¬ (q.2.map=m/\q.2.rem=r/\q.2.rport=rp)):S.findF m r rp=0:=by
 unfold NS.findF;rw[find?_eq_none.2 fun q hq=>by have:=br q hq;simpa using this]
def Kc {S:NS}{T:WT}(hT:T.wf)(n b:Nat)(hb:70<=b):Qc (Qo S T) n b=if b<n then .dead else .free:=by
 unfold Qo;rw[Qf,aa af,Qf,aa af,Qf,aa af,WT.qC hT n b af]
theorem nF (S:NS)(T:WT)(n:Nat):Qc (Qo S T) n 67=.cells S.cells:=rfl
theorem AX (S:NS)(T:WT)(n:Nat):Qc (Qo S T) n 68=.az (gD S.fl) false:=rfl
theorem AY (S:NS)(T:WT)(n:Nat):Qc (Qo S T) n 69=.cells (Ql S.keys):=rfl
def rB {S:NS}{T:WT}(hT:T.wf):∀ q ∈ Qo S T,q.2.live:=fun q hq=>Xb ((Qn hT).mem q hq).2
def To.kr {S:NS}{T:WT}{n:Nat}(hT:T.wf)(hex:∀ q ∈ ex,70<=q.1)(hp:∀ b ∈ p,b<70)(ht:Qr id 70 t t'):To p ⟨t,ex++Qo S T,n⟩ ⟨t',Qo S T,70⟩:=by
 have fA:∀ b,b<70->Qc (ex++Qo S T) n b=Qc (Qo S T) 70 b:=fun b hb=>by
  rw[Xo fun q hq e=>by have:=hex q hq;omega];exact ((Qn hT).live hb n).1
 refine To.lk id (fun b hb=>⟨rfl,hp b hb⟩) (fun b dG=>?_) (fun b hb gA=>?_) (fun b hb=>Kc hT 70 b hb |>.trans (aa (by have hb:70<=b:=hb;omega))) (fun b b' _ _ _ _ e=>e) (fun b hb dG=>?_) ht
 ·by_cases h:b < 70
  ·exact h
  ·have dG:(Qc (Qo S T) 70 b).live:=dG;rw[Kc hT 70 b af,aa h]at dG;exact dG.elim
 ·obtain ⟨_,q,hq,_,e⟩:=(Qn (S:=S) hT).live hb 70;exact (gA (by show (Qc (Qo S T) 70 b).live;rw[e];exact Xb ((Qn hT).mem q hq).2)).elim
 ·obtain ⟨_,q,hq,_,e⟩:=(Qn (S:=S) hT).live hb 70;refine ⟨?_,?_⟩
  ·show bV 70 (Qc (Qo S T) 70 b);rw[e];exact ((Qn hT).mem q hq).2
  ·show Qc (ex++Qo S T) n b=Qw id (Qc (Qo S T) 70 b);rw[fA b hb,qZ]
def To.tn {S:NS}{T:WT}  {n:Nat}(hT:T.wf)(hex:∀ q ∈ ex,71<=q.1)(hx:bV 70 x)(hp:∀ b ∈ p,b<70)(ht:Qr id 71 t t'):To p ⟨t,ex++(70,x)::Qo S T,n⟩ ⟨t',(70,x)::Qo S T,71⟩:=by
 have hl:∀ b,b<70->Qc ((70,x)::Qo S T) 71 b=Qc (Qo S T) 70 b:=fun b hb=>by
  rw[Qf,aa af];exact ((Qn hT).live hb 71).1
 have CV:Qc ((70,x)::Qo S T) 71 70=x:=by rw[Qf,am rfl]
 have hs:∀ b,b<71->Qc (ex++(70,x)::Qo S T) n b=Qc ((70,x)::Qo S T) 71 b:=fun b hb=>by
  rw[Xo fun q hq e=>by have:=hex q hq;omega];by_cases h:b=70
  ·subst h;rw[CV,Qf,am rfl]
  ·rw[hl b af,Qf,aa af];exact ((Qn hT).live af n).1
 have lh:∀ b,b<71->(Qc ((70,x)::Qo S T) 71 b).live/\bV 70 (Qc ((70,x)::Qo S T) 71 b):=fun b hb=>by
  by_cases h:b=70
  ·subst h;rw[CV];exact ⟨Xb hx,hx⟩
  ·rw[hl b af];obtain ⟨_,q,hq,_,e⟩:=(Qn (S:=S) hT).live (show b<70 by omega) 70;rw[e];have:=((Qn hT).mem q hq).2;exact ⟨Xb this,this⟩
 have CE:∀ b,71<=b->Qc ((70,x)::Qo S T) 71 b=.free:=fun b hb=>by
  rw[Qf,aa af,Kc hT 71 b af,aa af]
 refine To.lk id (fun b hb=>⟨rfl,by have:=hp b hb;show b<71;omega⟩) (fun b dG=>?_) (fun b hb gA=>(gA (lh b hb).1).elim) (fun b hb=>CE b hb) (fun b b' _ _ _ _ e=>e) (fun b hb dG=>⟨rq (show 70<=71 by decide) (lh b hb).2,by show Qc (ex++(70,x)::Qo S T) n b=Qw id (Qc ((70,x)::Qo S T) 71 b);rw[hs b hb,qZ]⟩) ht;by_cases h:b<71
 ·exact h
 ·have dG:(Qc ((70,x)::Qo S T) 71 b).live:=dG;rw[CE b af]at dG;exact dG.elim
set_option maxRecDepth 20000 in
def Qwj (S:NS)(T:WT)(hS:NJ S)(hT:T.wf)(m:Mp)(r rp:Int):GD Tryz.prog gl 86 [.ptr 67 0,.agg m.enc,.int .i64 r,.int .i64 rp] (Qo S T) 70 (List.range 70) (.int .i64 (S.findF m r rp)) (Qo S T):=by
 refine Qy9.gq (ap rfl) (rB hT) (fun b hb=>mem_range.1 hb) fun c bf hg=>?_
 conv in aG _ _=>cbv
 have aZ:=fun n b hb=>Kc (S:=S) hT n b hb;have cG:=nF S T;have wj:=AX S T;have Db:=AY S T;have aW:=NS.bb hS.wf;have fR:=NS.fR hS.wf;have lR:=NS.lR hS.wf;have fY:=wi S;obtain ⟨mp,ms,mi,ma,mt⟩:=m;unfold Mp.enc;refine Qd (An @aZ (An @cG (An @aW @lR))) ?_
 refine Yk (fun k:Nat=>k≤S.fl.length∧∀ q ∈ S.fl.take k,¬ (q.2.map=⟨mp,ms,mi,ma,mt⟩∧q.2.rem=r∧q.2.rport=rp)) (fun k=>⟨[(0,.ptr 67 0),(2,.int .i64 r),(3,.int .i64 rp),(5,.ptr 70 0),(15,.sl 1 69 0 S.fl.length S.fl.length),(16,.int .i64 S.fl.length),(17,.int .i64 k)],(70,.cells [.int .i64 mp,.int .i64 ms,.int .i64 mi,.int .i64 ma,.int .i64 mt])::Qo S T,71⟩) (fun k=>S.fl.length - k) Qy9.mixed (List.range 70) bf
  ⟨0,⟨by omega,by simp⟩,To.fN (by exact Qp) fun b=>rfl⟩ fun k hk=>?_
 obtain ⟨hk,br⟩:=hk;have h48:=hS.len;refine Qa ?_;refine Qb ?_ ?_<;>intro h1
 ·have bh:k < S.fl.length:=by omega
  have nG:=Quk S bh;have fJ:=Qx3 hS.dS bh (.agg Fl.zero);have ei:=Da S.fl;have eY:=sP S.fl[k].1;have tV:=Xz5 (S:=S) (m:=⟨mp,ms,mi,ma,mt⟩) (r:=r) (rp:=rp) bh br;have nA:¬ (S.fl[k].2.map=⟨mp,ms,mi,ma,mt⟩/\S.fl[k].2.rem=r/\S.fl[k].2.rport=rp)->∀ q ∈ S.fl.take (k+1),¬ (q.2.map=⟨mp,ms,mi,ma,mt⟩/\q.2.rem=r/\q.2.rport=rp):=fun h q hq=>by
   rw[List.take_succ,mem_append]at hq;rcases hq with hq|hq
   ·exact br q hq
   ·simp[bh]at hq;subst hq;exact h
  generalize S.fl[k]=q at *
  obtain ⟨x,⟨⟨p0,p1,p2,p3,p4⟩,g0,g1,g2,g3,g4⟩⟩:=q;unfold Fl.enc Zi at fJ;dsimp only at fJ tV nA nG eY;have heq:=@Aj c false ⟨p0,p1,p2,p3,p4⟩ ⟨mp,ms,mi,ma,mt⟩;unfold Mp.enc at heq;dsimp only at heq;refine Qd (An @Db (An @fY (An @nG (An @cG (An @aW @fR))))) ?_;refine Up oI (An @wj (An @ei (An @eY (An @fJ @aZ)))) ?_;by_cases hm:(⟨p0,p1,p2,p3,p4⟩:Mp)=⟨mp,ms,mi,ma,mt⟩
  ·rw[decide_eq_true hm]at heq;by_cases hr:g0=r∧g1=rp
   ·have f1:(g0==r)=true:=beq_iff_eq.2 hr.1;have f2:(g1==rp)=true:=beq_iff_eq.2 hr.2;have e:=tV ⟨hm,hr.1,hr.2⟩;refine Qk heq @aZ ?_;refine Qd (An @f1 @f2) ?_;refine Yc ?_;refine Qa ?_;refine ⟨(),?_⟩;rw[e];exact To.kr (ex:=[(71,_),(71,_),(70,_)]) hT aw (fun b hb=>mem_range.1 hb) (by simp[Qr,Qe,look,aA])
   ·have AL:=nA fun h=>hr ⟨h.2.1,h.2.2⟩;by_cases h0:g0=r
    ·have f1:(g0==r)=true:=beq_iff_eq.2 h0;have f2:(g1==rp)=false:=beq_eq_false_iff_ne.2 fun e=>hr ⟨h0,e⟩;refine Qk heq @aZ ?_;refine Qd (An @f1 @f2) ?_;refine Yc ?_;refine Qa ?_;exact ⟨k+1,⟨by omega,AL⟩,To.tn (ex:=[(71,_),(71,_)]) hT aw (by simp[bV,ah,Qe]) (fun b hb=>mem_range.1 hb) (by simp[Qr,Qe,ah,look,aA]),by omega⟩
    ·have f1:(g0==r)=false:=beq_eq_false_iff_ne.2 h0;refine Qk heq @aZ ?_;refine Qd @f1 ?_;refine Yc ?_;refine Qa ?_;exact ⟨k+1,⟨by omega,AL⟩,To.tn (ex:=[(71,_),(71,_)]) hT aw (by simp[bV,ah,Qe]) (fun b hb=>mem_range.1 hb) (by simp[Qr,Qe,ah,look,aA]),by omega⟩
  ·have AL:=nA fun h=>hm h.1;rw[decide_eq_false hm]at heq;refine Qk heq @aZ ?_;refine Yc ?_;refine Qa ?_;exact ⟨k+1,⟨by omega,AL⟩,To.tn (ex:=[(71,_),(71,_)]) hT aw (by simp[bV,ah,Qe]) (fun b hb=>mem_range.1 hb) (by simp[Qr,Qe,ah,look,aA]),by omega⟩
 ·obtain rfl:k=S.fl.length:=by omega
  rw[take_length]at br;rw[Xi1 br];refine Qa ?_;exact ⟨(),To.kr (ex:=[(70,_)]) hT aw (fun b hb=>mem_range.1 hb) (by simp[Qr,Qe,look,aA])⟩
def To.R0 {h:List (Nat×Bk)}{S:NS}{T:WT}{n:Nat}(ρ:Nat->Nat)(hT:T.wf)(hp:∀ b ∈ p,ρ b=b/\b<70)(ct:∀ b b',b<70->b'<70->ρ b=ρ b'->b=b')(hl:∀ b,b<70->Qc h n (ρ b)=Qw ρ (Qc (Qo S T) 70 b))(ht:Qr ρ 70 t t'):To p ⟨t,h,n⟩ ⟨t',Qo S T,70⟩:=by
 refine To.lk ρ (fun b hb=>hp b hb) (fun b dG=>?_) (fun b hb gA=>?_) (fun b hb=>Kc hT 70 b hb |>.trans (aa (by have hb:70<=b:=hb;omega))) (fun b b' hb bL _ _ e=>ct b b' hb bL e) (fun b hb dG=>?_) ht
 ·by_cases h:b < 70
  ·exact h
  ·have dG:(Qc (Qo S T) 70 b).live:=dG;rw[Kc hT 70 b af,aa h]at dG;exact dG.elim
 ·obtain ⟨_,q,hq,_,e⟩:=(Qn (S:=S) hT).live hb 70;exact (gA (by show (Qc (Qo S T) 70 b).live;rw[e];exact Xb ((Qn hT).mem q hq).2)).elim
 ·obtain ⟨_,q,hq,_,e⟩:=(Qn (S:=S) hT).live hb 70;refine ⟨?_,hl b hb⟩;show bV 70 (Qc (Qo S T) 70 b);rw[e];exact ((Qn hT).mem q hq).2
def Xt3 {S S':NS}{T:WT}  {n:Nat}(jO:S'.fl=S.fl)(hex:∀ q ∈ ex,70<=q.1\/q=(67,Bk.cells S'.cells))(cG:Qc (ex++Qo S T) n 67=.cells S'.cells)(hT:T.wf):∀ b,b<70->Qc (ex++Qo S T) n (id b)=Qw id (Qc (Qo S' T) 70 b):=fun b hb=>by
 rw[qZ];show Qc (ex++Qo S T) n b=_;by_cases h:b=67
 ·subst h;rw[cG];rfl
 ·rw[Xo fun q hq e=>(hex q hq).elim (fun h1=>by omega) fun h1=>h (by rw[h1]at e;exact e.symm),((Qn (S:=S) hT).live hb n).1];unfold Qo NS.keys;rw[jO];simp only[Qf]
  (repeat' split)<;>first|rfl|omega
def NS.Gz {S:NS}(h:S.tb.wf)(v:Nat):S.cells.set 35 (.int .i64 v)=({ S with ref:=v }:NS).cells:=NS.dQ h 5 _
def Qqk (S:NS)(T:WT)(hS:NJ S)(hT:T.wf)(f:List UInt8)(hf:f.length<=140737488351232)(e:Int):GD Tryz.prog gl 88 [.ptr 67 0,.str f,.int .i64 e] (Qo S T) 70 (List.range 70) (.agg (S.refuse f e).1.enc) (Qo (S.refuse f e).2 T):=by
 refine Xh0.gq (ap rfl) (rB hT) (fun b hb=>mem_range.1 hb) fun c bf hg=>?_
 conv in aG _ _=>cbv
 have aZ:=fun n b hb=>Kc (S:=S) hT n b hb;have cG:=nF S T;have aW:=NS.bb hS.wf;have we:=NS.we hS.wf;have hR:=Xs4 c.gl f S.ref hf;have R1:=hS.ref;unfold NS.refuse;refine Qd (An @aZ (An @cG (An @aW @we))) ?_;refine Qb ?_ ?_<;>intro h1
 ·rw[am (.inl af)];unfold bJ Rp.enc;refine Qd @aZ ?_;exact ⟨(),To.kr (ex:=[(70,_),(70,_)]) hT aw (fun b hb=>mem_range.1 hb) (by simp[Qr,Qe,ah,look,aA,ay])⟩
 by_cases he:cD f=0
 ·unfold Kw at hR;rw[aa af,aa af]at hR;rw[aa af];have tq:=NS.Gz hS.wf (S.ref - 1);have cz:(S.ref:Int) - 1=((S.ref - 1:Nat):Int):=by omega
  unfold Rp.enc;refine Qd (An @aZ (An @cG (An @aW @we))) ?_;refine Xd hR ?_;refine Qa ?_;refine Yc ?_;refine Qd (An @aZ (An @cG (An @aW (An @we (An @cz @tq))))) ?_;exact ⟨(),To.R0 id hT (fun b hb=>⟨rfl,mem_range.1 hb⟩) (fun b b' _ _ e=>e) (Xt3 (S':={ S with ref:=S.ref-1 }) (ex:=[(70,_),(67,_),(70,_)]) rfl aw rfl hT) (by simp[Qr,Qe,ah,look,aA,ay])⟩
 ·have cq:Kw f S.ref=.aR [.str [],.int .i64 (cD f)]:=am he;rw[cq]at hR;rw[am (.inr he)];unfold bJ Rp.enc;refine Qd (An @aZ (An @cG (An @aW @we))) ?_;refine Xd hR ?_;refine Qa ?_;refine Qb ?_ ?_<;>intro h2
  ·refine Qd @aZ ?_;exact ⟨(),To.kr (ex:=[(70,_),(70,_)]) hT aw (fun b hb=>mem_range.1 hb) (by simp[Qr,Qe,ah,look,aA,ay])⟩
  ·exact absurd h2 he
def Xiv (l:List Ev)(kE:l.length<=4611686018427387904) :
  PS Tryz.prog gl 135 [.int .i64 seq,.isl l.length (Xk l)] (pM seq l):=by
 refine V0.ps (ap rfl) (Qwu _ _ _) fun c hN hg=>?_
 conv in aG _ _=>cbv
 have hl:=xW l;refine Qa ?_;refine Qb ?_ ?_<;>intro h1
 ·have:l=[]:=List.eq_nil_of_length_eq_zero af;subst this;refine Qa ?_;rfl
 obtain ⟨e0,l0,hL⟩:∃ e0 l0,e0::l0=l:=by
  cases l with
  | nil=>simp at h1
  | cons e l=>exact ⟨e,l,rfl⟩
 have iE:(Xk l).getD 0 .any=.int .i64 e0.t:=by
  have:=Qz1 (e0::l0) 0 aw 0 aJ;simp only[List.getElem_cons_zero,Ev.enc,List.getD_cons_zero,Nat.zero_mul,Nat.zero_add]at this;rw[<- hL];exact this
 refine Qa ?_;refine Qb ?_ ?_<;>intro h2
 ·refine Qa ?_;subst hL;simp only[pM];rw[am (by simp only[length_cons]at h2;omega)]
 have hlen:l.length<=64:=by omega
 have fx:¬ 64<l0.length+1:=by rw[<- hL]at hlen;simp only[length_cons]at hlen;omega
 generalize l=L at *
 refine Qa ?_;refine Xlj (ps:=[(6,1)]) (by exact Qp) ?_
 (refine XG ?_)
 refine Qu (fun k:Nat=>k≤L.length∧nD e0.t (L.take k)=true) (fun k=>⟨[(0,.int .i64 seq),(1,.isl L.length (Xk L)),(6,.sl 1 0 0 (21 * k) (21 * k)),(17,.isl L.length (Xk L)),(18,.int .i64 L.length),(19,.int .i64 k)],[(0,.cells (Xj (Un (L.take k))))],1⟩) (fun k=>L.length - k) V0.mixed hN
  ⟨0,⟨by omega,rfl⟩,[],by refine Qa ?_;rfl⟩ fun k ⟨hk,bl⟩=>?_
 refine Qa ?_;refine Qb ?_ ?_<;>intro h3
 ·have bh:k < L.length:=by omega
  have aL:=RQ L k bh;have ec:=Qss L k bh;have fQ:nD e0.t (L.take (k+1))=(Jd L[k].t L[k].s L[k].a L[k].b&&L[k].t==e0.t):=by
   unfold nD at bl ⊢;rw[take_add_one,List.getElem?_eq_getElem bh,List.all_append,bl];simp
  have eE:(Jd L[k].t L[k].s L[k].a L[k].b&&L[k].t==e0.t)=false->nD e0.t L=false:=fun hb=>by
   unfold nD;rw[List.all_eq_false];exact ⟨L[k],getElem_mem _,by rw[hb];simp⟩
  have pZ:(Un (L.take k)).length=21*k:=by rw[AU];simp;omega
  generalize L[k]=e at *
  obtain ⟨t,sb,a,b,f⟩:=e;simp only[Ev.enc]at aL;refine Qd (An @hl @aL) ?_
  ((first|apply Yw|apply Yf|apply Xn|apply Xg)<;>(first|exact (Xh2 _ _ _ _ _ _)|(have aQ:=@aL;have bw:=@iE;refine XG ?_;clear aQ bw;first|exact rfl|exact True.intro|((try with_reducible and_intros);all_goals try first|refine zm ?_|exact CL))))
  refine Qb ?_ ?_<;>intro h4
  ·have hb:=eE (by
    simp only[qY]at h4;cases hg:Jd t sb a b
    ·rfl
    ·rw[am hg]at h4;simpa using h4)
   refine Qa ?_;subst hL;simp only[pM];rw[aa fx,aa (by rw[hb];simp)]
  ·have aV:Jd t sb a b=true:=by
    simp only[qY]at h4;by_cases hg:Jd t sb a b=true
    ·exact hg
    ·rw[aa hg]at h4;simp at h4
   have ht:t=e0.t:=by
    simp only[qY]at h4;rw[am aV]at h4;simpa using h4
   have hr:=aV;simp[Jd]at hr;generalize hB:Un (L.take k)=B at *
   have Fb:B.length<=100000000-21:=by omega
   refine Qa ?_
   (have zC:=(Wl c.gl B t 8 aJ af);refine Zv (ip [0]) zC (An @Qj @pZ) ?_;clear zC)
   (have zC:=(Wl c.gl (B++be t 8) (167772161+sb) 4 aJ (by simp[Qj];omega));refine Zv (ip [2]) zC (An @Qj @pZ) ?_;clear zC)
   (have zC:=(Wl c.gl (B++be t 8++be (167772161+sb) 4) (3405803777+a) 4 aJ (by simp[Qj];omega));refine Zv (ip [3]) zC (An @Qj @pZ) ?_;clear zC)
   (have zC:=(Wl c.gl (B++be t 8++be (167772161+sb) 4++be (3405803777+a) 4) (1024+b*8) 2 aJ (by simp[Qj];omega));refine Zv (ip [4]) zC (An @Qj @pZ) ?_;clear zC)
   (have zC:=(Wl c.gl (B++be t 8++be (167772161+sb) 4++be (3405803777+a) 4++be (1024+b*8) 2) (1024+b*8+8-1) 2 aJ (by simp[Qj];omega));refine Zv (ip [5]) zC (An @Qj @pZ) ?_;clear zC)
   have e1:1024+8*b=1024+b*8:=by omega
   have e2:1031+8*b=1024+b*8+8-1:=by omega
   cases f with
   | false =>
    refine Yc ?_;refine Qa ?_
    (have zC:=(Wl c.gl (B++be t 8++be (167772161+sb) 4++be (3405803777+a) 4++be (1024+b*8) 2++be (1024+b*8+8-1) 2) 1 1 aJ (by simp[Qj];omega));refine Zv (ip [6]) zC (An @Qj @pZ) ?_;clear zC)
    refine ⟨k+1,⟨by omega,by rw[fQ,aV,ht];simp⟩,⟨[(0,7)],?_⟩,by omega⟩;refine Qd @ec ?_;simp[wc,e1,e2]
   | true =>
    refine Yc ?_;refine Qa ?_
    (have zC:=(Wl c.gl (B++be t 8++be (167772161+sb) 4++be (3405803777+a) 4++be (1024+b*8) 2++be (1024+b*8+8-1) 2) 2 1 aJ (by simp[Qj];omega));refine Zv (ip [6]) zC (An @Qj @pZ) ?_;clear zC)
    refine ⟨k+1,⟨by omega,by rw[fQ,aV,ht];simp⟩,⟨[(0,7)],?_⟩,by omega⟩;refine Qd @ec ?_;simp[wc,e1,e2]
 ·have:k=L.length:=by omega
  subst this;rw[take_length]at bl ⊢;have hb:(Un L).length<=10000000:=by rw[AU];omega
  have hm:=V6 c.gl seq e0.t 300 (Un L) hb;have e2:pM seq L=Wz seq e0.t 300 (Un L):=by
   subst hL;simp only[pM];rw[aa fx,am bl]
  have R2:=AU L;rw[e2];clear e2;rw[R2]at hm;have hf:Jn (Wz seq e0.t 300 (Un L)):=by
   unfold Wz;split<;>exact .aR (by simp[Jn.str,Jn.int])
  unfold Wz at hm hf ⊢;refine Qd @iE ?_;split at hm
  ·rename_i hq;rw[am hq]at hf
   ((first|apply Wi|apply Kd)<;>(first|exact hm|(with_reducible exact hf)|(have aQ:=@iE;have bw:=@R2;refine XG ?_;clear aQ bw;first|exact rfl|exact True.intro|((try with_reducible and_intros);all_goals try first|refine zm ?_|exact CL))))
   rw[am (by assumption)]
  ·rename_i hq;rw[aa hq]at hf
   ((first|apply Wi|apply Kd)<;>(first|exact hm|(with_reducible exact hf)|(have aQ:=@iE;have bw:=@R2;refine XG ?_;clear aQ bw;first|exact rfl|exact True.intro|((try with_reducible and_intros);all_goals try first|refine zm ?_|exact CL))))
   rw[aa (by assumption)]
def GA (k:Nat):List UInt8:=be 300 2++be 6 2++(Xv.take k).flatMap fun f=>be f 2
def Xqb:∀ k,k<=12->(GA k).length=4+2*k:=by decide +kernel
def Xip:∀ k,k<12->GA k++be (Xv.getD k 0) 2=GA (k+1):=by decide +kernel
def Xi4:∀ k,k<12->0<=Xv.getD k 0/\Xv.getD k 0<=1000:=by decide +kernel
def Qz6:PS Tryz.prog gl 160 [.int .i64 seq] (Wz seq 0 2 (jx 6)):=by
 refine V3.ps (ap rfl) (Xf9 _ _ _ _ _) fun c hN hg=>?_
 conv in aG _ _=>cbv
 have hf:Xv.length=12:=rfl;refine Qa ?_
 (have zC:=(Yg c.gl 300 2);refine Qk zC @Qj ?_;clear zC)
 (have zC:=(Yg c.gl 6 2);refine Qk zC @Qj ?_;clear zC)
 refine Jx ?_
 refine Qu (fun k:Nat=>k≤12) (fun k=>⟨[(0,.int .i64 seq),(4,.str (GA k)),(10,.sl 1 0 0 12 12),(11,.int .i64 12),(12,.int .i64 k)],[(0,.cells (Ql Xv))],1⟩) (fun k=>12 - k) V3.mixed hN
  ⟨0,by omega,[],by (refine XG ?_;((try with_reducible and_intros);all_goals try first|refine zm ?_|exact CL))<;>rfl⟩ fun k hk=>?_
 refine Qa ?_;refine Qb ?_ ?_<;>intro h1
 ·have fg:k < 12:=by omega
  have hl:=Xqb k hk;have hs:=Xip k fg;obtain ⟨b0,b1⟩:=Xi4 k fg;refine Qd @hf ?_
  (have zC:=(Yg c.gl (Xv.getD k 0) 2 b0);refine Qk zC (An @Qj @hl) ?_;clear zC)
  refine ⟨k+1,by omega,⟨[],?_⟩,by omega⟩;exact Qi @hs
 ·have:k=12:=by omega
  subst this;have hm:=Qo5 c.gl seq 0 2 (jx 6) (by rw[N6 6 af];omega) af af;have R3:GA 12=jx 6:=by decide +kernel
  unfold Wz at hm ⊢;refine Qd @R3 ?_;split at hm
  ·refine Qk hm @R3 ?_;rw[am (by assumption)]
  ·refine Qk hm @R3 ?_;rw[aa (by assumption)]
def NS.s34 {S:NS}(h:S.tb.wf)(v:Nat):S.cells.set 34 (.int .i64 v)=({ S with told:=v }:NS).cells:=NS.dQ h 4 _
def Xdu (h0:gl 0=.xp (Ql Xv) 0)(S:NS)(T:WT)(hS:NJ S)(hT:T.wf)(mU:S.told<=100000)(l:List Ev)(hl:l.length<=64)(ha:∀ e ∈ l,Jd e.t e.s e.a e.b=true/\e.t=(l.headD ⟨0,0,0,0,false⟩).t) :
  GD Tryz.prog gl 95 [.ptr 67 0,.isl l.length (Xk l)] (Qo S T) 70 (List.range 70) (.str (nE S.told l)) (Qo (S.log l) T):=by
 refine Yau.gq (ap rfl) (rB hT) (fun b hb=>mem_range.1 hb) fun c bf hg=>?_
 conv in aG _ _=>cbv
 have aZ:=fun n b hb=>Kc (S:=S) hT n b hb;have cG:=nF S T;have aW:=NS.bb hS.wf;have tj:=NS.tj hS.wf;have AZ:=Xb7 c.gl (by rw[hg];exact h0) 0;unfold Wz at AZ;rw[am af]at AZ;refine Qa ?_;refine Qb ?_ ?_<;>intro h1
 ·obtain rfl:l=[]:=List.eq_nil_of_length_eq_zero af;refine Qa ?_;exact ⟨(),To.kr (ex:=[]) hT aw (fun b hb=>mem_range.1 hb) (by simp[Qr,Qe,ah,look,aA,ay,nE])⟩
 cases l with
 | nil=>simp at h1
 | cons e l =>
  have hM:=Xiv c.gl S.told (e::l) af;have bl:nD e.t (e::l)=true:=by
   unfold nD;rw[List.all_eq_true];intro x hx;obtain ⟨g1,g2⟩:=ha x hx;have g2:x.t=e.t:=g2;rw[g1,g2];simp
  have kE:¬ 64<l.length+1:=by simp at hl;omega
  unfold pM at hM;dsimp only at hM;rw[aa kE,am bl]at hM;unfold Wz at hM;rw[am af]at hM;have j6:=NS.s34 hS.wf (S.told+(e::l).length);have dX:(S.told:Int)+((e::l).length:Nat)=((S.told+(e::l).length:Nat):Int):=by omega
  have lj:nE S.told (e::l)=(if S.told=0 then j8 0 0 2 (jx 6) else [])++j8 S.told e.t 300 (Un (e::l)):=rfl;rw[lj];have gA:(e::l).length=l.length+1:=rfl;have hB:(Un (e::l)).length<=1400:=by rw[AU];omega
  have hE:=fun n=>Wv n (e::l);simp only[length_cons]at hM j6 dX ⊢;clear gA;generalize Xk (e::l)=E at *
  generalize Un (e::l)=B at *
  have A0:(j8 S.told e.t 300 B).length<=100000:=by
   simp[j8,Qj];omega
  generalize j8 S.told e.t 300 B=MB at *
  have GB:(j8 0 0 2 (jx 6)).length<=100000:=by decide +kernel
  generalize j8 0 0 2 (jx 6)=TB at *
  have fW:∀ (t:List (Nat×AV)) (ex:List (Nat×Bk)) (n:Nat) (r:List UInt8),70<=n->To (List.range 70) ⟨[(0,.str r)],(67,.cells ({ S with told:=S.told+(l.length+1) }:NS).cells)::Qo S T,70⟩ ⟨[(0,.str r)],Qo (S.log (e::l)) T,70⟩:=fun t ex n r hn =>
   To.R0 id hT (fun b hb=>⟨rfl,mem_range.1 hb⟩) (fun b b' _ _ e=>e) (Xt3 (S':=S.log (e::l)) (ex:=[(67,_)]) rfl (by simp[NS.log]) rfl hT) (by simp[Qr,Qe,look,aA])
  by_cases hz:S.told=0
  ·rw[am hz];refine Qd (An @cG (An @aW (An @tj @hE))) ?_;refine Qb ?_ ?_<;>intro h2
   ·refine Qa ?_;refine Qk AZ (An @cG (An @aW @tj)) ?_;refine Qd (An @cG (An @aW (An @tj @hE))) ?_;refine Qk hM (An @hE (An @cG (An @aW (An @tj (An @dX (An @j6 (An @A0 @GB))))))) ?_;refine Qd (An @cG (An @aW (An @tj (An @dX (An @j6 @hE))))) ?_;exact ⟨(),fW [] [] 70 _ af⟩
   ·exact absurd hz af
  ·rw[aa hz];refine Qd (An @cG (An @aW (An @tj @hE))) ?_;refine Qb ?_ ?_<;>intro h2
   ·exact absurd h2 af
   ·refine Qd (An @cG (An @aW (An @tj @hE))) ?_;refine Qk hM (An @hE (An @cG (An @aW (An @tj (An @dX (An @j6 (An @A0 @GB))))))) ?_;refine Qd (An @cG (An @aW (An @tj (An @dX (An @j6 @hE))))) ?_;exact ⟨(),fW [] [] 70 _ af⟩
section
variable {P:Program}{c:Cx}
def Xt9 {d:Option Nat}{f:FuncId}{xs:List TV}{args:List AV}{T:WT}{n:Nat}{r:AV}{t:List (Nat×AV)}{ex:List (Nat×Bk)}{r0:List bD}{K:St->Prop}(hq:GD P c.gl f args T.hb 67 (List.range 67) r T.hb)(hT:T.wf)(hn:67<=n)(hex:∀ q ∈ ex,67<=q.1/\q.1<n)
  (hc:Qq none (aC c.gl (⟨t,ex++T.hb,n⟩:St).fs xs)/\(aC c.gl (⟨t,ex++T.hb,n⟩:St).fs xs).map Qh=args/\ah 67 args) (hr:Qe 0 r) (h:XP P c r0 K (St.cd ⟨t,ex++T.hb,n+67⟩ d r)):Yn P c (.pd d (.call f) xs none) r0 K ⟨t,ex++T.hb,n⟩:=by
 have e:ex++T.hb=ex++Xa id T.hb:=by rw[Wo]
 rw[e]at hc h ⊢;refine OI (v:=false) hq (gx1 hT (fun b hb=>mem_range.1 hb) hn hex ⟨hc.1,?_,hc.2.2⟩) rfl (WT.iq hT) (by have:=rq (Nat.zero_le 67) (x:=.cells [r]) (by simpa [bV,ah] using hr);simpa [bV,ah] using this) (by rw[Xng hT hr];exact h);rw[hc.2.1];rfl
end
section
variable {P:Program}{c:Cx}
def LJ {d:Option Nat}{f:FuncId}{xs:List TV}{args:List AV}{T:WT}{n:Nat}{r:AV}{t:List (Nat×AV)}{ex:List (Nat×Bk)}{anc:List Nat}{fs:List bg}{r0:List bD}{K:St->Prop}(hq:GD P c.gl f args T.hb 67 (List.range 67) r T.hb)(hT:T.wf)(hn:67<=n)(hex:∀ q ∈ ex,67<=q.1/\q.1<n)
  (hc:Qq none (aC c.gl (⟨t,ex++T.hb,n⟩:St).fs xs)/\(aC c.gl (⟨t,ex++T.hb,n⟩:St).fs xs).map Qh=args/\ah 67 args) (hr:Qe 0 r) (h:XD P c anc r0 (⟨Xf xs,jy id 67 n,d.toList,jy id 67 n⟩::fs) K (St.cd ⟨t,ex++T.hb,n+67⟩ d r)):Zm P c anc (.pd d (.call f) xs none) r0 fs K ⟨t,ex++T.hb,n⟩:=by
 have e:ex++T.hb=ex++Xa id T.hb:=by rw[Wo]
 rw[e]at hc h ⊢;refine XR (v:=false) hq (gx1 hT (fun b hb=>mem_range.1 hb) hn hex ⟨hc.1,?_,hc.2.2⟩) rfl (WT.iq hT) (by have:=rq (Nat.zero_le 67) (x:=.cells [r]) (by simpa [bV,ah] using hr);simpa [bV,ah] using this) (by rw[Xng hT hr];exact h);rw[hc.2.1];rfl
end
def Qto (S:NS)(T:WT)(D:List Tm)(hS:NB S)(hW:WI T S.now D)(m:Mp)(hm:Fh m)(free:Bool):GD Tryz.prog gl 90 [.ptr 67 0,.agg m.enc,.bool free] (Qo S T) 70 (List.range 70) (.isl 1 (Xk [S.ev m free])) (Qo S T):=by
 have hT:=hW.wf;refine Xst.gq (ap rfl) (rB hT) (fun b hb=>mem_range.1 hb) fun c bf hg=>?_
 conv in aG _ _=>cbv
 have aZ:=fun n b hb=>Kc (S:=S) hT n b hb;have cG:=nF S T;have aW:=NS.bb hS.wf;have jJ:=NS.jJ hS.wf;have gT:=hW.iv c.gl;have hB:=KJ c.gl m.port hm.2.2.2.2;unfold lL at hB;obtain ⟨mp,ms,mi,ma,mt⟩:=m;unfold NS.ev Mp.enc;dsimp only at hB ⊢;refine Qd @aZ ?_;refine Qk hB (An @aZ (An @cG (An @aW @jJ))) ?_;refine LJ (ex:=[(70,_),(67,_),(68,_),(69,_)]) gT hT aJ aw (by exact Qp) (by simp[Qe]) ?_;refine Qa ?_;have qI:=fun n b hb=>WT.qC hT n (b:=b) hb;refine Ym (An @aZ @qI) ?_;refine Qd (An @aZ @qI) ?_;refine ⟨(),(To.fZ (b:=138) (i:=0) rfl rfl).trans (To.kr (S:=S) (T:=T) (ex:=[(138,.dead),(138,_),(70,_)]) hT aw (fun b hb=>mem_range.1 hb) ?_)⟩;simp[Qr,Qe,ah,look,aA,ay,Xk,Ev.enc]
def Yf4 {S:NS}{t:Tm}(h:t ∈ S.aX):∃ q ∈ S.fl,t.id=q.1/\t.due=q.2.due.toNat:=by
 obtain ⟨q,hq,rfl⟩:=mem_map.1 h;exact ⟨q,hq,rfl,rfl⟩
def Xph {S:NS}(h:NB S)(hl:S.fl.length<48){D:List Tm}(hD:D.Perm S.aX)(f:Fl) :
  AR S.now D (S.bG+1) (S.now+Yv f.map.ae f.st)=(0,D++[⟨S.bG+1,(S.now+Yv f.map.ae f.st).toNat⟩])/\List.Perm (D++[(⟨S.bG+1,(S.now+Yv f.map.ae f.st).toNat⟩:Tm)]) (S.begin f).aX:=by
 have hb:=Gx f.map.ae f.st;have hn:=h.now;have hlen:D.length<400:=by rw[hD.length_eq];simp[NS.aX];omega
 have cb:∀ t ∈ D,t.id≠S.bG+1:=fun t ht e=>by
  obtain ⟨q,hq,e1,_⟩:=Yf4 (hD.mem_iff.1 ht);have:=(h.ids q hq).2;omega
 refine ⟨?_,?_⟩
 ·unfold AR;rw[aa af,aa af];have e:Ur D (S.bG+1) (max (S.now+Yv f.map.ae f.st).toNat S.now)=D++[⟨S.bG+1,(S.now+Yv f.map.ae f.st).toNat⟩]:=by
   unfold Ur;rw[Lr cb,show max (S.now+Yv f.map.ae f.st).toNat S.now=(S.now+Yv f.map.ae f.st).toNat by omega]
  rw[e]
 ·have e:(S.begin f).aX=S.aX++[⟨S.bG+1,(S.now+Yv f.map.ae f.st).toNat⟩]:=by
   simp[NS.aX,NS.begin]
  rw[e];exact hD.append_right _
def nr (σ:Nat->Nat)(k b:Nat):Nat:=if b<67 then σ b else if b=69 then k else b
def Kz {k b:Nat}(h:b<67):nr σ k b=σ b:=am h
def NS.Dc (S:NS)(k w:Nat):List AV:=[.mp 68,.sl 1 k 0 S.fl.length S.fl.length,.int .i64 S.bG,.ptr w 0,.int .i64 S.told,.int .i64 S.ref,.int .i64 S.bm,.bool S.loose]
def NS.ku (S:NS)(ρ:Nat->Nat):ay ρ S.cells=S.tb.enc++[.mp (ρ 68),.sl 1 (ρ 69) 0 S.fl.length S.fl.length,.int .i64 S.bG,.ptr (ρ 0) 0,.int .i64 S.told,.int .i64 S.ref,.int .i64 S.bm,.bool S.loose]:=by
 unfold NS.cells NS.tl;rw[BV,Tb.dt];simp[ay,aA]
def Xey (ρ:Nat->Nat)(l:List (Int×Fl)):Qw ρ (.az (gD l) false)=.az (gD l) false:=by
 simp only[Qw];congr 1;refine (map_congr_left fun q hq=>?_).trans (map_id _);obtain ⟨h1,h2⟩:=Xlt 0 l q hq;show (aA ρ q.1,aA ρ q.2)=q;rw[td h1,td h2]
def Qt4 (ρ:Nat->Nat)(l:List Int):Qw ρ (.cells (Ql l))=.cells (Ql l):=by
 simp only[Qw,Qt]
def To.A3 {p:List Nat}{t t':List (Nat×AV)}{ex:List (Nat×Bk)}{S:NS}{T:WT}{σ:Nat->Nat}{n k:Nat}(hT:T.wf)(hp:∀ b ∈ p,b=67\/b=68)(ct:∀ b b',b<67->b'<67->σ b=σ b'->b=b')(hex:∀ q ∈ ex,∀ b,b<67->σ b≠q.1)(hk:k≠67/\k≠68)(aK:∀ b,b<67->σ b≠67/\σ b≠68/\σ b≠k)
  (pO:Qc (ex++Xa σ T.hb) n 67=.cells (S.tb.enc++S.Dc k (σ 0))) (rC:Qc (ex++Xa σ T.hb) n 68=.az (gD S.fl) false) (vz:Qc (ex++Xa σ T.hb) n k=.cells (Ql S.keys)) (ht:Qr (nr σ k) 70 t t'):To p ⟨t,ex++Xa σ T.hb,n⟩ ⟨t',Qo S T,70⟩:=by
 have A4:nr σ k 67=67:=rfl;have wm:nr σ k 68=68:=rfl;have tr:nr σ k 69=k:=rfl;refine To.R0 (nr σ k) hT (fun b hb=>?_) (fun b b' hb bL e=>?_) (fun b hb=>?_) ht
 ·rcases hp b hb with rfl|rfl<;>exact ⟨rfl,by decide⟩
 ·rcases (by omega:b < 67∨b=67∨b=68∨b=69) with h|rfl|rfl|rfl<;>rcases (by omega:b' < 67∨b'=67∨b'=68∨b'=69) with h'|rfl|rfl|rfl
  ·rw[Kz h,Kz h']at e;exact ct _ _ h h' e
  ·rw[Kz h]at e;exact absurd e (aK _ h).1
  ·rw[Kz h]at e;exact absurd e (aK _ h).2.1
  ·rw[Kz h]at e;exact absurd e (aK _ h).2.2
  ·rw[Kz h']at e;exact absurd e.symm (aK _ h').1
  ·rfl
  ·cases e
  ·exact absurd e.symm hk.1
  ·rw[Kz h']at e;exact absurd e.symm (aK _ h').2.1
  ·cases e
  ·rfl
  ·exact absurd e.symm hk.2
  ·rw[Kz h']at e;exact absurd e.symm (aK _ h').2.2
  ·exact absurd e hk.1
  ·exact absurd e hk.2
  ·rfl
 ·rcases (by omega:b < 67∨b=67∨b=68∨b=69) with h|rfl|rfl|rfl
  ·rw[Kz h,Xel hT ct hex h];have e:Qc (Qo S T) 70 b=Qc T.hb 67 b:=by
    unfold Qo;rw[Qf,aa af,Qf,aa af,Qf,aa af];exact ((WT.iq hT).live h 70).1
   rw[e];exact xV (n:=67) (fun b hb=>(Kz hb).symm) (RM hT h).2
  ·rw[A4,pO,nF];show _=Bk.cells (ay (nr σ k) S.cells);rw[NS.ku,wm,tr,Kz (by decide:0<67)];rfl
  ·rw[wm,rC,AX,Xey]
  ·rw[tr,vz,AY,Qt4]
def NS.R4 {S:NS}(h:S.tb.wf)(v:Int):S.cells.set 32 (.int .i64 v)=({ S with bG:=v }:NS).cells:=NS.dQ h 2 _
def Qt3 (S:NS)(T:WT)(D:List Tm)(hS:NB S)(nA:S.bG<=1000000)(hW:WI T S.now D)(hD:D.Perm S.aX)(hl:S.fl.length<48)(m:Mp)(r rp st:Int):∃ T' D',WI T' S.now D'/\D'.Perm (S.begin ⟨m,r,rp,st,0,0⟩).aX /\
  GD Tryz.prog gl 91 [.ptr 67 0,.agg (Fl.enc ⟨m,r,rp,st,0,0⟩)] (Qo S T) 70 [67] (.aR []) (Qo (S.begin ⟨m,r,rp,st,0,0⟩) T'):=by
 have hT:=hW.wf;obtain ⟨ha,kv⟩:=Xph hS hl hD ⟨m,r,rp,st,0,0⟩;obtain ⟨T',iS,iu⟩:=hW.tc gl (S.bG+1) (S.now+Yv m.ae st);dsimp only at ha kv;rw[ha]at iS iu;refine ⟨T',_,iS,kv,?_⟩;dsimp only at iu;have fv:=iS.wf;clear iS kv ha;refine Xm0.gq (ap rfl) (rB hT) aw fun c bf hg=>?_;subst hg
 conv in aG _ _=>cbv
 have aZ:=fun n b hb=>Kc (S:=S) hT n b hb;have cG:=nF S T;have wj:=AX S T;have Db:=AY S T;have aW:=NS.bb hS.wf;have LF:=NS.LF hS.wf;have R4:=NS.R4 hS.wf (S.bG+1);have fm:=NS.bb (S:={ S with bG:=S.bG+1 }) hS.wf;have d30:=NS.fR (S:={ S with bG:=S.bG+1 }) hS.wf;have d31:=NS.lR (S:={ S with bG:=S.bG+1 }) hS.wf;have d32:=NS.LF (S:={ S with bG:=S.bG+1 }) hS.wf;have d33:=NS.jJ (S:={ S with bG:=S.bG+1 }) hS.wf;dsimp only at d31 d32;have s31:∀ v,({ S with bG:=S.bG+1 }:NS).cells.set 31 v=S.tb.enc++({ S with bG:=S.bG+1 }:NS).tl.set 1 v:=fun v=>NS.dQ (S:={ S with bG:=S.bG+1 }) hS.wf 1 v;generalize ({ S with bG:=S.bG+1 }:NS).cells=C1 at *
 have gT:=hW.iv c.gl;have tt:=Xda c.gl m.ae st;have LK:=Gx m.ae st;have hn:=hS.now;have xga:=hS.lg;obtain ⟨mp,ms,mi,ma,mt⟩:=m;unfold Fl.enc Zi;dsimp only at tt LK iu ⊢;obtain ⟨L,hL⟩:∃ L,L=Yv mp st:=⟨_,rfl⟩
 rw[<- hL]at tt LK iu;refine Qd (An @aZ (An @cG (An @aW (An @LF @R4)))) ?_;refine LJ (ex:=[(67,_),(70,_),(67,_),(68,_),(69,_)]) gT hT aJ aw (by exact Qi (An @fm @d33)) (by simp[Qe]) ?_;refine Qa ?_;have qI:=fun n b hb=>WT.qC hT n (b:=b) hb;have ei:=Da S.fl;have eY:=sP (S.bG+1);have mT:=Xyf (l:=S.fl) (x:=S.bG+1) (fun q hq e=>by have:=(hS.ids q hq).2;omega) ⟨⟨mp,ms,mi,ma,mt⟩,r,rp,st,0,S.now+L⟩;unfold Fl.enc Zi at mT;dsimp only at mT;have fY:=wi S
 ((first|apply Yw|apply Yf|apply Xn|apply Xg)<;>(first|exact tt|(refine XG ?_;first|exact rfl|exact True.intro|((try with_reducible and_intros);all_goals try first|refine zm ?_|exact CL))))
 exact Qi (An @d33 (An @d32 (An @d30 @fm)))
 ((first|refine Oo oI ?_|refine Oq oI ?_);(have aQ:=@ei;have bw:=@eY;have bQ:=@mT;have cy:=@d33;have dh:=@d32;have ff:=@d30;have gu:=@fm;refine XG ?_;clear aQ bw bQ cy dh ff gu;((try with_reducible and_intros);all_goals try first|refine zm ?_|exact CL)))
 refine Qd (An @d31 (An @d32 @fm)) ?_;have f33:(C1.set 31 (AV.sl 1 139 0 (S.fl.length+1) (S.fl.length+1))).getD 33 AV.any=.ptr 0 0:=by rw[yZ (by rw[fm];decide),aa aJ];exact d33
 have f32:(C1.set 31 (AV.sl 1 139 0 (S.fl.length+1) (S.fl.length+1))).getD 32 AV.any=.int .i64 (S.bG+1):=by rw[yZ (by rw[fm];decide),aa aJ];exact d32
 refine Ym (An @qI @fY) ?_;refine Ym (An @qI (An @fY (An @fm (An @f33 @f32)))) ?_;have hC2:=s31 (.sl 1 139 0 (S.fl.length+1) (S.fl.length+1));refine Gw (v:=false) (ex:=[(67,_),(139,_),(69,_),(138,_),(68,_),(70,_),(67,_),(70,_),(67,_),(68,_),(69,_)]) iu (WT.iq hT) (WT.iq fv) (by simp[Qe]) aJ aJ aw rfl ?_ ?_
 ·exact Qi (An @Yt (An @f33 @f32))
 rw[RO (by simp[Qe])];refine Qa ?_;refine ⟨(),To.A3 (p:=[67]) (n:=207) (σ:=ie 140) (ex:=[(67,_),(139,_),(69,_),(138,_),(68,_),(70,_),(67,_),(70,_),(67,_),(68,_),(69,_)]) (k:=139) fv aw (fun b b' h h' e=>RN aJ h h' e) ?_ aJ ?_ ?_ ?_ ?_ (by simp[Qr,Qe,ah,look,aA,ay])⟩
 ·intro q hq b hb e;have h1:ie 140 b < 2∨142≤ie 140 b:=by unfold ie;split<;>omega
  simp at hq;rcases hq with rfl|rfl|rfl|rfl|rfl|rfl|rfl|rfl|rfl|rfl|rfl<;>dsimp only at e<;>omega
 ·intro b hb;have h1:ie 140 b < 2∨142≤ie 140 b:=by unfold ie;split<;>omega
  omega
 ·show Bk.cells _=_;rw[hC2];simp[NS.begin,NS.Dc,NS.tl,Yhq]
 ·show Bk.az _ _=_;simp only[NS.begin,<- hL]
 ·show Bk.cells _=_;simp[NS.begin,NS.keys]
def GC {l:List (Int×Fl)}(hd:l.Pairwise fun p q=>p.1≠q.1){q r:Int×Fl}(hq:q ∈ l)(hr:r ∈ l)(e:q.1=r.1):q=r:=by
 have hp:=pairwise_iff_getElem.1 hd;obtain ⟨i,hi,rfl⟩:=getElem_of_mem hq;obtain ⟨j,hj,rfl⟩:=getElem_of_mem hr;rcases Nat.lt_trichotomy i j with h1|h1|h1
 ·exact (hp i j hi hj h1 e).elim
 ·subst h1;rfl
 ·exact (hp j i hj hi h1 e.symm).elim
def Xec {S:NS}(hd:S.fl.Pairwise fun p q=>p.1≠q.1){q:Int×Fl}(hq:q ∈ S.fl)(p:Pk)(bn:Bool):(S.goes q.1 p bn).fl=S.fl.map fun r=>if r.1=q.1 then (r.1,q.2.next p bn S.now) else r:=by
 unfold NS.goes;refine map_congr_left fun r hr=>?_;split
 ·rename_i e;rw[GC hd hr hq e]
 ·rfl
def Qvo {S:NS}(hd:S.fl.Pairwise fun p q=>p.1≠q.1){q:Int×Fl}(hq:q ∈ S.fl)(p:Pk)(bn:Bool):∃ A B:List Tm,S.aX=A++⟨q.1,q.2.due.toNat⟩::B/\(S.goes q.1 p bn).aX=A++⟨q.1,(q.2.next p bn S.now).due.toNat⟩::B/\∀ t ∈ A++B,t.id≠q.1:=by
 obtain ⟨i,hi,rfl⟩:=getElem_of_mem hq;have hs:S.fl=S.fl.take i++S.fl[i]::S.fl.drop (i+1):=by rw[<- List.drop_eq_getElem_cons hi,List.take_append_drop]
 have iA:=pairwise_iff_getElem.1 hd;have hA:∀ r ∈ S.fl.take i,r.1≠S.fl[i].1:=fun r hr=>by
  obtain ⟨j,hj,rfl⟩:=getElem_of_mem hr;rw[List.length_take]at hj;rw[List.getElem_take];exact iA j i af hi af
 have hB:∀ r ∈ S.fl.drop (i+1),r.1≠S.fl[i].1:=fun r hr=>by
  obtain ⟨j,hj,rfl⟩:=getElem_of_mem hr;rw[List.length_drop]at hj;rw[List.getElem_drop];exact (iA i (i+1+j) hi af af).symm
 have hid:∀ l:List (Int×Fl),(∀ r ∈ l,r.1≠S.fl[i].1)->(l.map fun r=>if r.1=S.fl[i].1 then (r.1,S.fl[i].2.next p bn S.now) else r)=l:=fun l hl=>(map_congr_left fun r hr=>by rw[aa (hl r hr)];rfl).trans (map_id l);refine ⟨(S.fl.take i).map fun q=>⟨q.1,q.2.due.toNat⟩,(S.fl.drop (i+1)).map fun q=>⟨q.1,q.2.due.toNat⟩,?_,?_,?_⟩
 ·unfold NS.aX
  conv=>lhs;rw[hs]
  rw[map_append,map_cons]
 ·unfold NS.aX;rw[Xec hd (getElem_mem hi)];have:(S.fl.map fun r=>if r.1=S.fl[i].1 then (r.1,S.fl[i].2.next p bn S.now) else r)=S.fl.take i++(S.fl[i].1,S.fl[i].2.next p bn S.now)::S.fl.drop (i+1):=by
   generalize hx:S.fl[i]=x at *
   conv=>lhs;rw[hs]
   rw[map_append,map_cons,hid _ hA,hid _ hB,am rfl]
  rw[this,map_append,map_cons]
 ·intro t ht;rcases mem_append.1 ht with ht|ht
  ·obtain ⟨r,hr,rfl⟩:=mem_map.1 ht;exact hA r hr
  ·obtain ⟨r,hr,rfl⟩:=mem_map.1 ht;exact hB r hr
def Xxs {S:NS}(h:NJ S){D:List Tm}(hD:D.Perm S.aX){q:Int×Fl}(hq:q ∈ S.fl)(p:Pk)(bn:Bool)(hd:(S.now:Int)+4<=(q.2.next p bn S.now).due/\(q.2.next p bn S.now).due<=S.now+60) :
  ∃ D',AR S.now D q.1 (q.2.next p bn S.now).due=(0,D')/\D'.Perm (S.goes q.1 p bn).aX:=by
 obtain ⟨A,B,e1,e2,e3⟩:=Qvo h.dS hq p bn;have hn:=h.now;have bN:(⟨q.1,q.2.due.toNat⟩:Tm) ∈ D:=hD.mem_iff.2 (by rw[e1];simp);have R5:km D q.1=true:=any_eq_true.2 ⟨_,bN,by simp⟩;refine ⟨Ur D q.1 (q.2.next p bn S.now).due.toNat,?_,?_⟩
 ·unfold AR;rw[aa af,aa (by rw[R5];simp),show max (q.2.next p bn S.now).due.toNat S.now=(q.2.next p bn S.now).due.toNat by omega]
 ·unfold Ur;rw[e2];refine (List.perm_append_singleton _ _).trans ?_;refine List.Perm.trans ?_ List.perm_middle.symm;refine List.Perm.cons _ ?_;have h1:(Xx q.1 D).Perm (Xx q.1 S.aX):=hD.filter _;refine h1.trans ?_;rw[e1];unfold Xx;rw[List.filter_append,List.filter_cons,aa aw,<- List.filter_append,List.filter_eq_self.2 fun t ht=>by simpa using e3 t ht]
def Xnz {S:NS}(h:NJ S){q:Int×Fl}(hq:q ∈ S.fl)(p:Pk)(bn:Bool)(hd:(q.2.next p bn S.now).due=q.2.due):(S.goes q.1 p bn).aX=S.aX:=by
 obtain ⟨A,B,e1,e2,_⟩:=Qvo h.dS hq p bn;rw[e1,e2,hd]
def To.eb {p:List Nat}{t t':List (Nat×AV)}{ex:List (Nat×Bk)}{S:NS}{T:WT}{n k:Nat}(hT:T.wf)(hp:∀ b ∈ p,b=67\/b=68)(hex:∀ q ∈ ex,67<=q.1)(hk:k≠67/\k≠68)(hk2:67<=k)
  (pO:Qc (ex++T.hb) n 67=.cells (S.tb.enc++S.Dc k 0)) (rC:Qc (ex++T.hb) n 68=.az (gD S.fl) false) (vz:Qc (ex++T.hb) n k=.cells (Ql S.keys)) (ht:Qr (nr id k) 70 t t'):To p ⟨t,ex++T.hb,n⟩ ⟨t',Qo S T,70⟩:=by
 have:=To.A3 (p:=p) (t:=t) (t':=t') (ex:=ex) (S:=S) (σ:=id) (n:=n) (k:=k) hT hp (fun b b' _ _ e=>e) (fun q hq b hb e=>by have:=hex q hq;have e:b=q.1:=e;omega) hk (fun b hb=>by show b≠67/\b≠68/\b≠k;omega);rw[Wo]at this;exact this pO rC vz ht
def Xta {S:NS}(hd:S.fl.Pairwise fun p q=>p.1≠q.1){q:Int×Fl}(hq:q ∈ S.fl)(p:Pk)(bn:Bool):Jy (gD S.fl) (.int .i64 q.1) (.agg (q.2.next p bn S.now).enc)=gD (S.goes q.1 p bn).fl:=by
 rw[Xec hd hq];obtain ⟨i,hi,rfl⟩:=getElem_of_mem hq;exact Yb2 hd hi _
def LL {l:List (Int×Fl)}(hd:l.Pairwise fun p q=>p.1≠q.1){q:Int×Fl}(hq:q ∈ l)(z:AV):Kg (gD l) (.int .i64 q.1) z=.agg q.2.enc:=by
 obtain ⟨i,hi,rfl⟩:=getElem_of_mem hq;exact Qx3 hd hi z
def R6 (S:NS)(k:Int)(p:Pk)(bn:Bool):(S.goes k p bn).keys=S.keys:=by
 unfold NS.keys NS.goes;rw[List.map_map];exact map_congr_left fun q _=>by dsimp only[Function.comp];split<;>rfl
def Xv9 (S:NS)(k:Int)(p:Pk)(bn:Bool):(S.goes k p bn).fl.length=S.fl.length:=by unfold NS.goes;exact List.length_map ..
def Qz3 (S:NS)(T:WT)(D:List Tm)(hS:NI S)(hW:WI T S.now D)(hD:D.Perm S.aX)(q:Int×Fl)(hq:q ∈ S.fl)(p:Pk)(bn:Bool):∃ T' D',WI T' S.now D'/\D'.Perm (S.goes q.1 p bn).aX /\
  GD Tryz.prog gl 93 [.ptr 67 0,.int .i64 q.1,.agg p.enc,.bool bn] (Qo S T) 70 [67] (.aR []) (Qo (S.goes q.1 p bn) T'):=by
 have hT:=hW.wf;have cya:=hS.now;have iQ:=Qyn q.2.map.ae q.2.st q.2.side q.2.due p.flags bn (now:=S.now) af af;have fJ:=LL hS.dS hq (.agg Fl.zero);have mT:=Xta hS.dS hq p bn;have nG:=R6 S q.1 p bn;have me:=Xv9 S q.1 p bn;have htb:(S.goes q.1 p bn).tb=S.tb:=rfl;have eY:=sP q.1;have ei:=Da S.fl;have fY:=wi S;by_cases cW:(q.2.next p bn S.now).due=q.2.due
 ·refine ⟨T,D,hW,by rw[Xnz hS.toNJ hq p bn cW];exact hD,?_⟩;refine Qvt.gq (ap rfl) (rB hT) aw fun c bf hg=>?_;subst hg
  conv in aG _ _=>cbv
  have aZ:=fun n b hb=>Kc (S:=S) hT n b hb;have cG:=nF S T;have wj:=AX S T;have Db:=AY S T;have aW:=NS.bb hS.wf;have fR:=NS.fR hS.wf;have jJ:=NS.jJ hS.wf;have qI:=fun n b hb=>WT.qC hT n (b:=b) hb;have gT:=hW.iv c.gl;obtain ⟨k,f⟩:=q;obtain ⟨⟨mp,ms,mi,ma,mt⟩,r,rp,st,sd,du⟩:=f;obtain ⟨p1,p2,p3,p4,p5,p6,p7,p8,p9,db,dc,pb⟩:=p;have hN:=Xfb c.gl mp ms mi ma mt r rp st sd du p1 p2 p3 p4 p5 p6 p7 p8 p9 db dc pb bn S.now;unfold Fl.next at mT cW;unfold Fl.enc Zi at fJ mT;unfold Zi at hN;unfold Pk.enc;dsimp only at fJ mT hN eY cW nG me ⊢;generalize Ul mp st sd du p8 bn S.now=x at *
  obtain ⟨x1,x2,x3⟩:=x;dsimp only at mT hN cW;subst cW;refine Qd (An @aZ (An @cG (An @aW @fR))) ?_;refine Up oI (An @wj (An @ei (An @eY (An @fJ (An @aZ (An @cG (An @aW @jJ))))))) ?_;refine LJ (ex:=[(70,_),(67,_),(68,_),(69,_)]) gT hT aJ aw (by exact Qi (An @aW @jJ)) (by simp[Qe]) ?_;refine Qa ?_;refine Qk hN @qI ?_;refine Qd (An @aW (An @fR @qI)) ?_;refine Up oI (An @ei (An @eY (An @fJ (An @aW (An @fR @qI))))) ?_;refine Yc ?_;refine Qd (An @aW @fR) ?_;refine xj oI (An @ei (An @eY (An @mT (An @aW @fR)))) ?_;refine ⟨(),To.eb (ex:=[(68,_),(138,_),(138,_),(70,_),(67,_),(68,_),(69,_)]) (k:=69) hT aw aw aJ aJ ?_ rfl ?_ (by simp[Qr,Qe,ah,look,aA,ay])⟩
  ·show Bk.cells _=_;unfold NS.cells NS.tl NS.Dc;rw[me];rfl
  ·show Bk.cells _=_;rw[nG]
 obtain ⟨eM,hb2⟩:(S.now:Int)+4<=(q.2.next p bn S.now).due/\(q.2.next p bn S.now).due<=S.now+60:=by
  rcases iQ with h|⟨d,h1,h2,h3⟩
  ·exact absurd h cW
  ·have:(q.2.next p bn S.now).due=S.now+d:=h3;omega
 obtain ⟨D',xZ,kv⟩:=Xxs hS.toNJ hD hq p bn ⟨eM,hb2⟩;obtain ⟨T',iS,iu⟩:=hW.tc gl q.1 (q.2.next p bn S.now).due;rw[xZ]at iS iu;refine ⟨T',D',iS,kv,?_⟩;have fv:=iS.wf;clear kv xZ iS;refine Qvt.gq (ap rfl) (rB hT) aw fun c bf hg=>?_;subst hg
 conv in aG _ _=>cbv
 have aZ:=fun n b hb=>Kc (S:=S) hT n b hb;have cG:=nF S T;have wj:=AX S T;have Db:=AY S T;have aW:=NS.bb hS.wf;have fR:=NS.fR hS.wf;have jJ:=NS.jJ hS.wf;have qI:=fun n b hb=>WT.qC hT n (b:=b) hb;have gT:=hW.iv c.gl;obtain ⟨k,f⟩:=q;obtain ⟨⟨mp,ms,mi,ma,mt⟩,r,rp,st,sd,du⟩:=f;obtain ⟨p1,p2,p3,p4,p5,p6,p7,p8,p9,db,dc,pb⟩:=p;have hN:=Xfb c.gl mp ms mi ma mt r rp st sd du p1 p2 p3 p4 p5 p6 p7 p8 p9 db dc pb bn S.now;unfold Fl.next at mT cW iu;unfold Fl.enc Zi at fJ mT;unfold Zi at hN;unfold Pk.enc;clear eM hb2 iQ;dsimp only at fJ mT hN eY cW nG me iu ⊢;generalize Ul mp st sd du p8 bn S.now=x at *
 obtain ⟨x1,x2,x3⟩:=x;dsimp only at mT hN cW;refine Qd (An @aZ (An @cG (An @aW @fR))) ?_;refine Up oI (An @wj (An @ei (An @eY (An @fJ (An @aZ (An @cG (An @aW @jJ))))))) ?_;refine LJ (ex:=[(70,_),(67,_),(68,_),(69,_)]) gT hT aJ aw (by exact Qi (An @aW @jJ)) (by simp[Qe]) ?_;refine Qa ?_;refine Qk hN @qI ?_;refine Qd (An @aW (An @fR @qI)) ?_;refine Up oI (An @ei (An @eY (An @fJ (An @aW (An @fR @qI))))) ?_;refine Qb ?_ ?_<;>intro h1;rotate_left
 ·exact absurd h1 (by simpa using cW)
 refine Qd (An @aW @jJ) ?_;refine Gw (v:=false) (ex:=[(138,_),(138,_),(70,_),(67,_),(68,_),(69,_)]) iu (WT.iq hT) (WT.iq fv) (by simp[Qe]) aJ aJ aw rfl ?_ ?_
 ·exact Qi (An @Yt (An @aW @jJ))
 rw[RO (by simp[Qe])];refine Qd (An @aW @fR) ?_;refine xj oI (An @ei (An @eY (An @mT (An @aW @fR)))) ?_;refine ⟨(),To.A3 (p:=[67]) (n:=206) (σ:=ie 139) (ex:=[(68,_),(138,_),(138,_),(70,_),(67,_),(68,_),(69,_)]) (k:=69) fv aw (fun b b' h h' e=>RN aJ h h' e) ?_ aJ ?_ ?_ rfl ?_ (by simp[Qr,Qe,ah,look,aA,ay])⟩
 ·intro q hq b hb e;have h1:ie 139 b < 2∨141≤ie 139 b:=by unfold ie;split<;>omega
  simp at hq;rcases hq with rfl|rfl|rfl|rfl|rfl|rfl|rfl<;>dsimp only at e<;>omega
 ·intro b hb;have h1:ie 139 b < 2∨141≤ie 139 b:=by unfold ie;split<;>omega
  omega
 ·show Bk.cells _=_;unfold NS.cells NS.tl NS.Dc;rw[me];rfl
 ·show Bk.cells _=_;rw[nG]
section
variable {P:Program}{c:Cx}
def Xz2 {anc:List Nat}{fs:List bg}{r0:List bD}{K:St->Prop}{s:St}{d:Nat}{t:TypeId}{ok:Bool}{xs:List TV}{gd:Option (Nat×Bool)}{wide:Bool}{ks:List SK}{z:AV}(hT:cu P t wide ks z)(hb:gB s.fs gd=some true)(aS:gn s.fs gd)
  (h:Qq none (aC c.gl s.fs xs)/\qh s.fs wide ks ((aC c.gl s.fs xs).map Qh)/\XD P c anc r0 (⟨jU gd++Xf xs,[eJ ((aC c.gl s.fs xs).map Qh)],[d],[]⟩::fs) K (s.put d (zJ s.fs z ok ((aC c.gl s.fs xs).map Qh)))) :
  Zm P c anc (.pd (some d) (.wM t ok) xs gd) r0 fs K s:=⟨_,_,NZ hb aS (IW hT h.1 h.2.1),h.2.2⟩
end
def wo (b:Int->Bool):List Int->Nat->Int
 | [],_=>-1
 | x::l,k=>if b x=true then k else wo b l (k+1)
def Xe6 {b:Int->Bool}:∀ (l:List Int) (k:Nat),decide (0<=wo b l k)=l.any b
 | [],k=>by simp[wo]
 | x::l,k=>by
  unfold wo;rw[List.any_cons];split
  ·rename_i h;rw[h];simp
  ·rename_i h;rw[Xe6 l (k+1)];simp[h]
section
variable {h:List (Nat×Bk)}{m kb:Nat}{l:List Int}{f:FuncId}{caps:List AV}{b:Int->Bool}
def Ye2 (gl:Nat->AV)(H:HL h m)(hl:l.length<=1000000)(ya:kb<m)(hk:∀ n,Qc h n kb=.cells (Ql l))(pP:ah m caps)
  (hf:∀ x ∈ l,GD Tryz.prog gl f (.int .i64 x::caps) h m (List.range m) (.bool (b x)) h) :
  GD Tryz.prog gl 136 [.sl 1 kb 0 l.length l.length,.cl f caps] h m (List.range m) (.int .i64 (wo b l 0)) h:=by
 refine LG.gq (ap rfl) H.lives (fun b hb=>mem_range.1 hb) fun c bf hg=>?_;subst hg
 conv in aG _ _=>cbv
 have dN:=Xw l;refine Qa ?_
 refine Yk (fun k:Nat=>k≤l.length∧wo b (l.drop k) k=wo b l 0) (fun k=>⟨[(0,.sl 1 kb 0 l.length l.length),(1,.cl f caps),(6,.sl 1 kb 0 l.length l.length),(7,.int .i64 l.length),(8,.int .i64 k)],h,m⟩) (fun k=>l.length - k) LG.mixed (List.range m) bf
  ⟨0,⟨by omega,rfl⟩,To.fN (by exact Qp) fun b=>rfl⟩ fun k hk2=>?_
 obtain ⟨fY,cO⟩:=hk2;have js:∀ b ∈ List.range m,b<m:=fun b hb=>mem_range.1 hb;refine Qa ?_;refine Qb ?_ ?_<;>intro h1
 ·have bh:k < l.length:=by omega
  have nG:=C6 l k bh;have ja:l.drop k=l[k]::l.drop (k+1):=List.drop_eq_getElem_cons bh;rw[ja]at cO;rw[wo]at cO;have hc:=hf l[k] (getElem_mem bh);generalize l[k]=t at *
  refine Qd (An @dN (An @nG @hk)) ?_;refine tg (v:=true) (ex:=[]) hc H H (by simp[Qe]) (Nat.le_refl m) aw rfl ?_ ?_
  ·refine Qa ?_;exact rfl
  refine Qa ?_;refine Qb ?_ ?_<;>intro h2
  ·rw[am h2]at cO;refine Qa ?_;refine ⟨(),?_⟩;rw[<- cO];exact To.drop (ex:=[]) H aw js (by simp[Qr,Qe,look,aA])
  ·rw[aa (by simpa using h2)]at cO;refine Qa ?_;refine ⟨k+1,⟨by omega,cO⟩,To.drop (ex:=[]) H aw js ?_,by omega⟩;simp[Qr,Qe,ah,look,aA,pP,ya];exact (sm caps).symm
 ·have:k=l.length:=by omega
  subst this;rw[List.drop_length]at cO;have cO:(-1:Int)=wo b l 0:=cO;refine Qa ?_;refine ⟨(),?_⟩;rw[<- cO];exact To.drop (ex:=[]) H aw js (by simp[Qr,Qe,look,aA])
def Xe5 (gl:Nat->AV)(H:HL h m)(hl:l.length<=1000000)(ya:kb<m)(hk:∀ n,Qc h n kb=.cells (Ql l))(pP:ah m caps)
  (hf:∀ x ∈ l,GD Tryz.prog gl f (.int .i64 x::caps) h m (List.range m) (.bool (b x)) h) :
  GD Tryz.prog gl 96 [.sl 1 kb 0 l.length l.length,.cl f caps] h m (List.range m) (.bool (l.any b)) h:=by
 refine Yd1.gq (ap rfl) H.lives (fun b hb=>mem_range.1 hb) fun c bf hg=>?_;subst hg
 conv in aG _ _=>cbv
 have hc:=Ye2 c.gl H hl ya hk pP hf;have ha:=Xe6 (b:=b) l 0;refine Qa ?_;refine tg (v:=false) (ex:=[]) hc H H (by simp[Qe]) (Nat.le_refl m) aw rfl ⟨?_,?_,?_⟩ ?_
 ·exact Qp
 ·exact Qi @Yt
 ·simp[ah,Qe,ya,pP]
 refine Qa ?_;refine ⟨(),?_⟩;rw[<- ha];exact To.drop (ex:=[]) H aw (fun b hb=>mem_range.1 hb) (by simp[Qr,Qe,look,aA])
end
section
variable {h:List (Nat×Bk)}{mm nb mb pb:Nat}{S:NS}{m:Mp}
def Xog (hS:NB S)(H:HL h mm)(pO:∀ n,Qc h n 67=.cells S.cells)(rC:∀ n,Qc h n 68=.az (gD S.fl) false)(Dd:∀ n,Qc h n nb=.cells [.ptr 67 0])(c5:∀ n,Qc h n mb=.cells m.enc){q:Int×Fl}(hq:q ∈ S.fl) :
  GD Tryz.prog gl 101 [.int .i64 q.1,.ptr nb 0,.ptr mb 0] h mm (List.range mm) (.bool (decide (q.2.map=m))) h:=by
 refine Xoa.gq (ap rfl) H.lives (fun b hb=>mem_range.1 hb) fun c bf hg=>?_;subst hg
 conv in aG _ _=>cbv
 have fJ:=LL hS.dS hq (.agg Fl.zero);have eY:=sP q.1;have ei:=Da S.fl;have aW:=NS.bb hS.wf;have fR:=NS.fR hS.wf;obtain ⟨k,f⟩:=q;obtain ⟨⟨p0,p1,p2,p3,p4⟩,g0,g1,g2,g3,g4⟩:=f;obtain ⟨mp,ms,mi,ma,mt⟩:=m;have heq:=@Aj c false ⟨p0,p1,p2,p3,p4⟩ ⟨mp,ms,mi,ma,mt⟩;unfold Mp.enc at heq c5;unfold Fl.enc Zi at fJ;dsimp only at fJ heq c5 eY ⊢;refine Qd (An @Dd (An @pO (An @aW @fR))) ?_;refine Up oI (An @rC (An @ei (An @eY (An @fJ @c5)))) ?_
 ((first|apply Yw|apply Yf|apply Xn|apply Xg)<;>(first|exact heq|(refine XG ?_;first|exact rfl|exact True.intro|((try with_reducible and_intros);all_goals try first|refine zm ?_|exact CL))))
 refine Qa ?_
 ·simp[Ud,Uo,cU];decide
 exact ⟨(),To.drop (ex:=[]) H aw (fun b hb=>mem_range.1 hb) (by simp[Qr,Qe,look,aA])⟩
def Ya4 (hS:NJ S)(H:HL h mm)(pO:∀ n,Qc h n 67=.cells S.cells)(rC:∀ n,Qc h n 68=.az (gD S.fl) false)(Dd:∀ n,Qc h n nb=.cells [.ptr 67 0])(c5:∀ n,Qc h n mb=.cells m.enc){p:Pk}(De:∀ n,Qc h n pb=.cells p.enc){q:Int×Fl}(hq:q ∈ S.fl) :
  GD Tryz.prog gl 97 [.int .i64 q.1,.ptr nb 0,.ptr mb 0,.ptr pb 0] h mm (List.range mm) (.bool (decide (q.2.map=m)&&q.2.rem==p.aE)) h:=by
 refine Yc4.gq (ap rfl) H.lives (fun b hb=>mem_range.1 hb) fun c bf hg=>?_;subst hg
 conv in aG _ _=>cbv
 have fJ:=LL hS.dS hq (.agg Fl.zero);have eY:=sP q.1;have ei:=Da S.fl;have aW:=NS.bb hS.wf;have fR:=NS.fR hS.wf;obtain ⟨k,f⟩:=q;obtain ⟨⟨p0,p1,p2,p3,p4⟩,g0,g1,g2,g3,g4⟩:=f;obtain ⟨mp,ms,mi,ma,mt⟩:=m;obtain ⟨x1,x2,x3,x4,x5,x6,x7,x8,x9,x10,x11,xb⟩:=p;have heq:=@Aj c false ⟨p0,p1,p2,p3,p4⟩ ⟨mp,ms,mi,ma,mt⟩;unfold Mp.enc at heq c5;unfold Pk.enc at De;unfold Fl.enc Zi at fJ;dsimp only at fJ heq c5 De eY ⊢;refine Qd (An @Dd (An @pO (An @aW @fR))) ?_;refine Up oI (An @rC (An @ei (An @eY (An @fJ @c5)))) ?_;by_cases hm:(⟨p0,p1,p2,p3,p4⟩:Mp)=⟨mp,ms,mi,ma,mt⟩
 ·rw[decide_eq_true hm]at heq ⊢;refine Qk heq (An @Dd (An @pO (An @aW (An @fR @De)))) ?_;refine Xz2 oI ?_ ?_ ?_
  ·exact Qp
  ·exact Qp
  (have aQ:=@rC;have bw:=@ei;have bQ:=@eY;have cy:=@fJ;have dh:=@c5;have ff:=@De;refine XG ?_;clear aQ bw bQ cy dh ff;((try with_reducible and_intros);all_goals try first|refine zm ?_|exact CL))
  ·simp[Ud,Uo,cU];decide
  exact ⟨(),To.drop (ex:=[]) H aw (fun b hb=>mem_range.1 hb) (by simp[Qr,Qe,look,aA])⟩
 ·rw[decide_eq_false hm]at heq ⊢;refine Qk heq (An @Dd (An @pO (An @aW (An @fR @De)))) ?_
  ((first|apply w9|apply xc)<;>(have aQ:=@Dd;have bw:=@pO;have bQ:=@aW;have cy:=@fR;have dh:=@De;refine XG ?_;clear aQ bw bQ cy dh;first|exact rfl|exact True.intro|((try with_reducible and_intros);all_goals try first|refine zm ?_|exact CL)))
  ·simp[Ud,Uo,cU];decide
  exact ⟨(),To.drop (ex:=[]) H aw (fun b hb=>mem_range.1 hb) (by simp[Qr,Qe,look,aA])⟩
end
end Go.Proofs.YtogckmommodmhaaGreatDoor
