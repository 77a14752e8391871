import Derived.Test.YtogckmommodmhaaGreatDoorZx14
import Derived.Test.YtogckmommodmhaaGreatDoorZx11
import Derived.Test.YtogckmommodmhaaGreatDoorZx9
namespace Go.Proofs.YtogckmommodmhaaGreatDoor
open List (mem_cons mem_cons_self mem_cons_of_mem map_congr_left mem_range map_id mem_singleton map_cons map_nil length_cons take_add_one getElem_mem take_length mem_append mem_map find?_eq_none any_eq_true pairwise_iff_getElem getElem_of_mem map_append)
open Go.RowKit
set_option linter.all false
set_option maxHeartbeats 4000000
set_option maxRecDepth 100000
variable {p:List Nat}{σ:Nat->Nat}{m:Mp}{t t':List (Nat×AV)}{ex:List (Nat×Bk)}{i:Nat}{tb:Tb}{x:Bk}(gl:Nat->AV)(v seq:Int)(n:Nat)
def Xtg {h:List (Nat×Bk)}{n b:Nat}(hb:∀ q ∈ h,q.1≠b):Qb h n b=if b<n then .dead else .free:=by
 have:=Xl (h:=[]) (n:=n) (j:=b) hb;rw[List.append_nil]at this;rw[this];rfl
section
variable {h h0 h1 ex ex':List (Nat×Bk)}{m n n' b:Nat}
def HL.hi (H:HL h m)(n b:Nat)(hb:m<=b):Qb h n b=if b<n then .dead else .free:=Xtg fun q hq e=>by have:=(H.mem q hq).1;omega
def HL.lo (H:HL h m)(hb:b<m)(n:Nat):Qb h n b=Qb h m b:=(H.live hb n).1
def HL.nm (H:HL h m)(hb:b<m):bX m (Qb h m b):=by
 obtain ⟨_,q,hq,_,e⟩:=H.live hb m;rw[e];exact (H.mem q hq).2
def HL.lv (H:HL h m)(hb:b<m):(Qb h m b).live:=Xa (H.nm hb)
def HL.lives (H:HL h m):∀ q ∈ h,q.2.live:=fun q hq=>Xa (H.mem q hq).2
def HL.more (H:HL h m)  (hx:bX (m+1) x):HL ((m,x)::h) (m+1) where
 mem q hq:=by
  rcases mem_cons.1 hq with rfl|hq
  ·exact ⟨Nat.lt_succ_self _,hx⟩
  ·exact ⟨by have:=(H.mem q hq).1;omega,rE (Nat.le_succ m) (H.mem q hq).2⟩
 jV b hb:=by
  by_cases e:b=m
  ·exact ⟨_,mem_cons_self,e.symm⟩
  ·obtain ⟨q,hq,e2⟩:=H.jV b af;exact ⟨q,mem_cons_of_mem _ hq,e2⟩
 self q hq:=by
  rcases mem_cons.1 hq with rfl|hq
  ·rw[Qf,am rfl]
  ·have:=(H.mem q hq).1;rw[Qf,aa af,H.lo this,H.self q hq]
def To.pQ (ρ:Nat->Nat)(H:HL h m)(hp:∀ b ∈ p,ρ b=b/\b<m)(ct:∀ b b',b<m->b'<m->ρ b=ρ b'->b=b')(hl:∀ b,b<m->Qb h0 n (ρ b)=Qw ρ (Qb h m b))(ht:Qs ρ m t t'):To p ⟨t,h0,n⟩ ⟨t',h,m⟩:=by
 refine To.lk ρ hp (fun b dJ=>?_) (fun b hb gH=>(gH (H.lv hb)).elim) (fun b hb=>(H.hi m b hb).trans (aa (by have hb:m<=b:=hb;show ¬ b<m;omega))) (fun b b' hb bL _ _ e=>ct b b' hb bL e) (fun b hb dJ=>⟨H.nm hb,hl b hb⟩) ht;by_cases hb:b<m
 ·exact hb
 ·have dJ:(Qb h m b).live:=dJ;rw[H.hi m b af,aa hb]at dJ;exact dJ.elim
def To.drop (H:HL h m)(hex:∀ q ∈ ex,m<=q.1)(hp:∀ b ∈ p,b<m)(ht:Qs id m t t'):To p ⟨t,ex++h,n⟩ ⟨t',h,m⟩ :=
 To.pQ id H (fun b hb=>⟨rfl,hp b hb⟩) (fun b b' _ _ e=>e) (fun b hb=>by
  rw[ru];show Qb (ex++h) n b=_;rw[Xl fun q hq e=>by have:=hex q hq;omega,H.lo hb]) ht
def lw (σ:Nat->Nat)(m b:Nat):Nat:=if b<m then σ b else b
def Dk (h:b<m):lw σ m b=σ b:=am h
def GK (h:m<=b):lw σ m b=b:=aa (by omega)
def To.mid {p:List Nat}{t t':List (Nat×AV)}{σ:Nat->Nat}{k:Nat}(H:HL h m)(H':HL (ex'++h) k)(BW:m<=k)(jL:∀ q ∈ ex',m<=q.1)(ct:∀ b b',b<m->b'<m->σ b=σ b'->b=b')(hex:∀ q ∈ ex,iZ σ m q.1)(fy:∀ b,b<m->∀ b',m<=b'->b'<k->σ b≠b')
  (hp:∀ b ∈ p,lw σ m b=b/\b<k) (hl:∀ b,m<=b->b<k->Qb (ex++Qq σ h) n b=Qw (lw σ m) (Qb (ex'++h) k b)) (ht:Qs (lw σ m) k t t'):To p ⟨t,ex++Qq σ h,n⟩ ⟨t',ex'++h,k⟩:=by
 refine To.pQ (lw σ m) H' hp (fun b b' hb bL e=>?_) (fun b hb=>?_) ht
 ·by_cases h1:b < m<;>by_cases h2:b' < m
  ·rw[Dk h1,Dk h2]at e;exact ct _ _ h1 h2 e
  ·rw[Dk h1,GK af]at e;exact (fy b h1 b' af bL e).elim
  ·rw[GK af,Dk h2]at e;exact (fy b' h2 b af hb e.symm).elim
  ·rw[GK af,GK af]at e;exact e
 ·by_cases h1:b < m
  ·rw[Dk h1,Xl fun q hq e=>hex q hq b h1 e.symm,Ku ct h1 (fun q hq=>(H.mem q hq).1) (H.jV b h1),Xl fun q hq e=>by have:=jL q hq;omega,H.lo h1 k];exact yb (g:=lw σ m) (fun b hb=>(Dk hb).symm) (H.nm h1)
  ·rw[GK af];exact hl b af hb
def Xcm {f g:Nat->Nat}(H:HL h m)(e:∀ b,b<m->f b=g b):Qq f h=Qq g h:=by
 unfold Qq;exact map_congr_left fun q hq=>by
  obtain ⟨h1,h2⟩:=H.mem q hq;rw[e q.1 h1,yb e h2]
end
def Xes {m n b:Nat}(hb:b<m):cG id (List.range m) n b=b:=Ks (mem_range.2 hb)
section
variable {P:Program}{c:Cx}{h h1 ex:List (Nat×Bk)}{m n:Nat}{v:Bool}{d:Option Nat}{kk:PK}{f:FuncId}{xs:List TV}{args:List AV}{r:AV}{t:List (Nat×AV)}{r0:List bB}{K:St->Prop}
def LU (H:HL h m)(hn:m<=n)(hp:∀ b ∈ p,b<m)(hex:∀ q ∈ ex,m<=q.1/\q.1<n)(hc:Qr none (aD c.gl (⟨t,ex++h,n⟩:St).fs xs)/\lP v f ((aD c.gl (⟨t,ex++h,n⟩:St).fs xs).map Qh)=some (f,args)/\ah m args) :
  qn c.gl xs v f args id p m t ex h n:=by
 refine ⟨fun b b' _ _ e=>e,fun b hb=>by show b<n;omega,H,hp,fun q hq=>⟨fun b hb e=>by have:=(hex q hq).1;have e:b=q.1:=e;omega,(hex q hq).2⟩,?_,?_,hc.2.2⟩
 ·rw[Wd];exact hc.1
 ·rw[Wd,ql];exact hc.2.1
def Xs0 (H1:HL h1 m)(hr:Qe m r):Ju t ex h1 id (List.range m) m n d r=St.ca ⟨t,ex++h1,n+m⟩ d r:=by
 have e:aB (cG id (List.range m) n) r=r:=wc (n:=m) (fun b hb=>Xes hb) r hr;unfold Ju;rw[Xcm H1 (f:=cG id (List.range m) n) (g:=id) fun b hb=>Xes hb,Wd,e]
theorem Yl (f:FuncId)(l:List AV):lP false f l=some (f,l):=rfl
def tn (hq:GD P c.gl f args h m (List.range m) r h1)(H:HL h m)(H1:HL h1 m)(hr:Qe m r)(hn:m<=n)(hex:∀ q ∈ ex,m<=q.1/\q.1<n)(hk:kk=(bif v then .cC else .call f))
  (hc:Qr none (aD c.gl (⟨t,ex++h,n⟩:St).fs xs)/\lP v f ((aD c.gl (⟨t,ex++h,n⟩:St).fs xs).map Qh)=some (f,args)/\ah m args) (hx:XP P c r0 K (St.ca ⟨t,ex++h1,n+m⟩ d r)):Yo P c (.pd d kk xs none) r0 K ⟨t,ex++h,n⟩:=by
 have:=OR (d:=d) (r0:=r0) (K:=K) hq (LU (v:=v) H hn (fun b hb=>mem_range.1 hb) hex hc) hk H1 hr (by rw[Xs0 H1 hr];exact hx);rw[Wd]at this;exact this
def LV {p:List Nat}{anc:List Nat}{fs:List bc}(hq:GD P c.gl f args h m p r h1)(H:HL h m)(H1:HL h1 m)(hr:Qe m r)(hn:m<=n)(hp:∀ b ∈ p,b<m)(hex:∀ q ∈ ex,m<=q.1/\q.1<n)(hk:kk=(bif v then .cC else .call f))
  (hc:Qr none (aD c.gl (⟨t,ex++h,n⟩:St).fs xs)/\lP v f ((aD c.gl (⟨t,ex++h,n⟩:St).fs xs).map Qh)=some (f,args)/\ah m args) (hx:XD P c anc r0 (⟨Xe xs,eU id m n,d.toList,eU id m n⟩::fs) K (Ju t ex h1 id p m n d r)):Yz P c anc (.pd d kk xs none) r0 fs K ⟨t,ex++h,n⟩:=by
 have:=X0 (d:=d) (anc:=anc) (fs:=fs) (r0:=r0) (K:=K) hq (LU (v:=v) H hn hp hex hc) hk H1 hr hx;rw[Wd]at this;exact this
def uJ {p pp:List Nat}{s3:St}(bf:∀ q ∈ c.gh,q.1 ∈ pp)(hq:GD P c.gl f args h m p r h1)(H:HL h m)(H1:HL h1 m)(hr:Qe m r)(hn:m<=n)(hp:∀ b ∈ p,b<m)(hex:∀ q ∈ ex,m<=q.1/\q.1<n)(hk:kk=(bif v then .cC else .call f))
  (hc:Qr none (aD c.gl (⟨t,ex++h,n⟩:St).fs xs)/\lP v f ((aD c.gl (⟨t,ex++h,n⟩:St).fs xs).map Qh)=some (f,args)/\ah m args) (jj:To pp (Ju t ex h1 id p m n d r) s3) (hx:XP P c r0 K s3):Yo P c (.pd d kk xs none) r0 K ⟨t,ex++h,n⟩:=by
 have aS:=LU (v:=v) H hn hp hex hc;refine .inr fun ops io he g a w hR K' Q' hK=>?_;have hA:=E0 (d:=d) hq aS hk H1 hr ops io he;rw[Wd]at hA;refine hA.step _ (fun _ _=>rfl) (fun _ _=>rfl) g a w hR K' Q' fun g2 a' w' cp=>?_;rw[Ii hA.a7 hA.dt]at cp;obtain ⟨g3,mF⟩:=jj c g2 a' w' bf cp;exact hK g3 s3 a' w' hx mF
end
structure Ev where
 t:Int
 s:Int
 a:Int
 b:Int
 f:Bool
def Ev.enc (e:Ev):List AV:=[.int .i64 e.t,.int .i64 e.s,.int .i64 e.a,.int .i64 e.b,.bool e.f]
def Xj (l:List Ev):List AV:=l.flatMap Ev.enc
theorem yf (l:List Ev):(Xj l).length=l.length*5:=by
 induction l with
 | nil=>rfl
 | cons e l ih=>simp[Xj,Ev.enc]at ih ⊢;omega
def R4 (l:List Ev)(k:Nat)(h:k<l.length):((Xj l).drop (k*5)).take 5=(l[k]).enc:=by
 induction l generalizing k with
 | nil=>simp at h
 | cons e l ih =>
  cases k with
  | zero=>simp[Xj,Ev.enc]
  | succ k =>
   have:=ih k (by simpa using h);have e1:Xj (e::l)=e.enc++Xj l:=by simp[Xj]
   rw[e1,List.drop_append,List.drop_eq_nil_of_le (by simp[Ev.enc];omega)];have e2:(k+1)*5-e.enc.length=k*5:=by simp[Ev.enc];omega
   rw[e2];simpa using this
def Qzb (l:List Ev)(i:Nat)(h:i<l.length)(j:Nat)(hj:j<5):(Xj l).getD (i*5+j) .any=l[i].enc.getD j .any:=by
 have:=R4 l i h;rw[<- this,Vs hj]
def Uc (l:List Ev):ah n (Xj l):=by
 rw[Xw];intro x hx;obtain ⟨e,_,he⟩:=List.mem_flatMap.1 hx;simp[Ev.enc]at he;rcases he with rfl|rfl|rfl|rfl|rfl<;>simp[Qe]
theorem Yc9 (l:List Ev):ah n (Xj l)=True:=eq_true (Uc n l)
theorem Xsk (ρ:Nat->Nat)(l:List Ev):ay ρ (Xj l)=Xj l:=by
 rw[Zx];refine (map_congr_left (g:=id) fun x hx=>?_).trans (map_id _);obtain ⟨e,_,he⟩:=List.mem_flatMap.1 hx;simp[Ev.enc]at he;rcases he with rfl|rfl|rfl|rfl|rfl<;>simp[aB]
attribute [go_sem] Yc9 Xsk yf
def Yc7 (o:List Int)(e:Ev):Option (List Int)×Int :=
 if Je e.t e.s e.a e.b=false then (none,2)
 else
  let i:=(e.a*6+e.b).toNat
  if e.f=false/\o.getD i 0≠0 then (none,8)
  else if e.f=true/\o.getD i 0≠e.s+1 then (none,7)
  else (some (o.set i (if e.f then 0 else e.s+1)),0)
def Yfc:List Int->List Ev->List Int×Int
 | o,[]=>(o,0)
 | o,e::l=>match Yc7 o e with
  | (some o',_)=>Yfc o' l
  | (none,k)=>(List.replicate 18 0,k)
def Xmx (k:Nat)(hk:k<=8):Qy v k=UInt8.ofNat ((v/256 ^ k)%256).toNat:=by
 unfold Qy;rw[IntKind.wrap_u8];have e:min (8*(k:Int)).toNat 64=8*k:=by omega
 rw[e,Int.fdiv_eq_ediv_of_nonneg _ (Int.pow_nonneg aJ)];have e2:(2:Int) ^ (8*k)=256 ^ k:=by rw[Int.pow_mul];rfl
 rw[e2]
def Xfs (j:Nat):v/256 ^ j/256=v/256 ^ (j+1):=by
 rw[Int.ediv_ediv_of_nonneg (Int.pow_nonneg aJ),Int.pow_succ]
def Qvg (h0:0<=v)(j:Nat):0<=v/256 ^ j/\v/256 ^ j<=v:=by
 have hp:(0:Int)<256 ^ j:=Int.pow_pos aJ;exact ⟨Int.ediv_nonneg h0 af,Int.ediv_le_self _ h0⟩
def Yg (gl:Nat->AV)(v:Int)(n:Nat)(h0:0<=v:=by omega)(h1:v<=9223372036854775807:=by omega)(hn:n<=8:=by decide) :
  PS Tryz.prog gl 144 [.int .i64 v,.int .i64 n] (.str (be v n)):=by
 refine WH.ps (ap rfl) (by simp[Qe]) fun c hN hg=>?_
 conv in aG _ _=>cbv
 refine Qa ?_
 refine Qv (fun j:Nat=>j≤n) (fun j=>⟨[(0,.int .i64 (v / 256 ^ j)),(1,.int .i64 ((n - j:Nat):Int)),(5,.str (be v j))],[],0⟩) (fun j=>n - j) WH.mixed hN
  ⟨0,by omega,[],by refine Qa ?_;simp[be]⟩ fun j hj=>?_
 refine Qa ?_;obtain ⟨b0,b1⟩:=Qvg v h0 j;refine Qc ?_ ?_<;>intro h2
 ·refine Qa ?_
  ((first|apply w8|apply w9|apply xc|apply xd|apply xe|apply xf);(have aQ:=@Qk;refine XG ?_;clear aQ;((try with_reducible and_intros);all_goals try first|refine zm ?_|exact CL)))
  ·intro x hx;rw[mem_singleton]at hx;subst hx;exact rfl
  ·simp only[toB,map_cons,map_nil,length_cons,List.length_nil];omega
  have e1:(v/256 ^ j).tdiv 256=v/256 ^ (j+1):=by rw[Int.tdiv_eq_ediv_of_nonneg b0,Xfs]
  have e2:(v/256 ^ j).tmod 256=(v/256 ^ j)%256:=Int.tmod_eq_emod_of_nonneg b0;obtain ⟨c0,c1⟩:=Qvg v h0 (j+1);refine ⟨j+1,by omega,⟨[],?_⟩,by omega⟩;rw[e1,e2];refine ⟨by rw[IntKind.wrap_i64];omega,by omega,?_⟩;simp only[be,Xmx v j af];simp only[toB,bD,IntKind.wrap_u8,map_cons,map_nil,List.cons_append,List.nil_append,Int.emod_emod]
 ·have:j=n:=by omega
  subst this;exact Qp
def wv (e:Ev):List UInt8:=be e.t 8++be (167772161+e.s) 4++be (3405803777+e.a) 4++be (1024+8*e.b) 2++be (1031+8*e.b) 2++be (if e.f then 2 else 1) 1
def Xel (e:Ev):(wv e).length=21:=by simp[wv,Qk]
def Qzc (e:Ev)(h:Je e.t e.s e.a e.b=true):PS Tryz.prog gl 175 [.agg e.enc] (.str (wv e)):=by
 refine Qwk.ps (ap rfl) (by simp[Qe]) fun c hN hg=>?_
 conv in aG _ _=>cbv
 obtain ⟨t,s,a,b,f⟩:=e;simp[Je]at h;simp only[Ev.enc];refine Qa ?_;cases f with
 | false =>
  refine Yc ?_;refine Qa ?_
  (have zC:=(Yg c.gl t 8);refine Qj zC @Qk ?_;clear zC)
  (have zC:=(Yg c.gl (167772161+s) 4);refine Qj zC @Qk ?_;clear zC)
  (have zC:=(Yg c.gl (3405803777+a) 4);refine Qj zC @Qk ?_;clear zC)
  (have zC:=(Yg c.gl (1024+8*b) 2);refine Qj zC @Qk ?_;clear zC)
  (have zC:=(Yg c.gl (1031+8*b) 2);refine Qj zC @Qk ?_;clear zC)
  (have zC:=(Yg c.gl 1 1);refine Qj zC @Qk ?_;clear zC)
  simp[wv]
 | true =>
  refine Yc ?_;refine Qa ?_
  (have zC:=(Yg c.gl t 8);refine Qj zC @Qk ?_;clear zC)
  (have zC:=(Yg c.gl (167772161+s) 4);refine Qj zC @Qk ?_;clear zC)
  (have zC:=(Yg c.gl (3405803777+a) 4);refine Qj zC @Qk ?_;clear zC)
  (have zC:=(Yg c.gl (1024+8*b) 2);refine Qj zC @Qk ?_;clear zC)
  (have zC:=(Yg c.gl (1031+8*b) 2);refine Qj zC @Qk ?_;clear zC)
  (have zC:=(Yg c.gl 2 1);refine Qj zC @Qk ?_;clear zC)
  simp[wv]
def Yj0:be 10 2=[0,10]:=by decide +kernel
def Yjs:be 1 4=[0,0,0,1]:=by decide +kernel
def Qnw (seq time set:Int)(bs:List UInt8)(hl:bs.length<=10000000)(ht:0<=time)(hs:0<=set/\set<=65535) :
  PS Tryz.prog gl 173 [.int .i64 seq,.int .i64 time,.int .i64 set,.str bs] (Ug seq time set bs):=by
 refine Xde.ps (ap rfl) (by unfold Ug;split<;>simp[Qe,ah]) fun c hN hg=>?_
 conv in aG _ _=>cbv
 refine Qa ?_;have e0:time.tmod 4294967296=time%4294967296:=Int.tmod_eq_emod_of_nonneg ht;refine Qc ?_ ?_<;>intro h1
 ·refine Qa ?_;unfold Ug;rw[aa af]
 ·refine Qa ?_
  (have zC:=(Yg c.gl (20+bs.length) 2);refine Qj zC @Qk ?_;clear zC)
  (have zC:=(Yg c.gl (time.tmod 4294967296) 4);refine Qj zC @Qk ?_;clear zC)
  (have zC:=(Yg c.gl seq 4);refine Qj zC @Qk ?_;clear zC)
  (have zC:=(Yg c.gl set 2);refine Qj zC @Qk ?_;clear zC)
  (have zC:=(Yg c.gl (4+bs.length) 2);refine Qj zC @Qk ?_;clear zC)
  unfold Ug ki;rw[am af,Yj0,Yjs];simp
def Ut (l:List Ev):List UInt8:=l.flatMap wv
def A8 (l:List Ev):(Ut l).length=21*l.length:=by
 induction l with
 | nil=>rfl
 | cons e l ih=>simp[Ut,Xel]at ih ⊢;omega
def Qtp (l:List Ev)(k:Nat)(h:k<l.length):Ut (l.take (k+1))=Ut (l.take k)++wv l[k]:=by
 rw[take_add_one,List.getElem?_eq_getElem h];simp only[Ut,List.flatMap_append,Option.toList_some,List.flatMap_cons,List.flatMap_nil,List.append_nil]
def nN (t0:Int)(l:List Ev):Bool:=l.all fun e=>Je e.t e.s e.a e.b&&e.t==t0
def pR (seq:Int):List Ev->AV
 | []=>.aR [.str [],.int .i64 7]
 | e::l=>if 64<l.length+1 then .aR [.str [],.int .i64 6] else if nN e.t (e::l)=true then Ug seq e.t 300 (Ut (e::l)) else .aR [.str [],.int .i64 2]
def Xf6 (seq time set:Int)(bs:List UInt8):Qe n (Ug seq time set bs):=by unfold Ug;split<;>simp[Qe,ah]
def Qza (seq:Int)(l:List Ev):Qe n (pR seq l):=by
 unfold pR;split
 ·simp[Qe,ah]
 ·split
  ·simp[Qe,ah]
  ·split
   ·exact Xf6 _ _ _ _ _
   ·simp[Qe,ah]
def Xbe (l:List Ev)(kN:l.length<=4611686018427387904) :
  PS Tryz.prog gl 161 [.int .i64 seq,.isl l.length (Xj l)] (pR seq l):=by
 refine WC.ps (ap rfl) (Qza _ _ _) fun c hN hg=>?_
 conv in aG _ _=>cbv
 have hl:=yf l;refine Qa ?_;refine Qc ?_ ?_<;>intro h1
 ·have:l=[]:=List.eq_nil_of_length_eq_zero af;subst this;refine Qa ?_;rfl
 obtain ⟨e0,l0,hL⟩:∃ e0 l0,e0::l0=l:=by
  cases l with
  | nil=>simp at h1
  | cons e l=>exact ⟨e,l,rfl⟩
 have iK:(Xj l).getD 0 .any=.int .i64 e0.t:=by
  have:=Qzb (e0::l0) 0 av 0 aJ;simp only[List.getElem_cons_zero,Ev.enc,List.getD_cons_zero,Nat.zero_mul,Nat.zero_add]at this;rw[<- hL];exact this
 refine Qa ?_;refine Qc ?_ ?_<;>intro h2
 ·refine Qa ?_;subst hL;simp only[pR];rw[am (by simp only[length_cons]at h2;omega)]
 have hlen:l.length<=64:=by omega
 have fD:¬ 64<l0.length+1:=by rw[<- hL]at hlen;simp only[length_cons]at hlen;omega
 generalize l=L at *
 refine Qa ?_
 refine Qv (fun k:Nat=>k≤L.length∧nN e0.t (L.take k)=true) (fun k=>⟨[(0,.int .i64 seq),(1,.isl L.length (Xj L)),(6,.str (Ut (L.take k))),(15,.isl L.length (Xj L)),(16,.int .i64 L.length),(17,.int .i64 k)],[],0⟩) (fun k=>L.length - k) WC.mixed hN
  ⟨0,⟨by omega,rfl⟩,[],by refine Qa ?_;rfl⟩ fun k ⟨hk,bl⟩=>?_
 refine Qa ?_;refine Qc ?_ ?_<;>intro h3
 ·have bg:k < L.length:=by omega
  have aK:=R4 L k bg;have ea:=Qtp L k bg;have fY:nN e0.t (L.take (k+1))=(Je L[k].t L[k].s L[k].a L[k].b&&L[k].t==e0.t):=by
   unfold nN at bl ⊢;rw[take_add_one,List.getElem?_eq_getElem bg,List.all_append,bl];simp
  have eE:(Je L[k].t L[k].s L[k].a L[k].b&&L[k].t==e0.t)=false->nN e0.t L=false:=fun hb=>by
   unfold nN;rw[List.all_eq_false];exact ⟨L[k],getElem_mem _,by rw[hb];simp⟩
  have lK:(Ut (L.take k)).length=21*k:=by rw[A8];simp;omega
  have htx:=Qzc c.gl L[k];generalize L[k]=e at *
  obtain ⟨t,sb,a,b,f⟩:=e;simp only[Ev.enc]at aK htx;refine Qd (An @hl @aK) ?_
  ((first|apply Yy|apply Yh|apply Xo|apply Xg)<;>(first|exact (Xay _ _ _ _ _ _)|(have aQ:=@aK;have bu:=@iK;refine XG ?_;clear aQ bu;first|exact rfl|exact True.intro|((try with_reducible and_intros);all_goals try first|refine zm ?_|exact CL))))
  refine Qc ?_ ?_<;>intro h4
  ·have hb:=eE (by
    simp only[rq]at h4;cases hg:Je t sb a b
    ·rfl
    ·rw[am hg]at h4;simpa using h4)
   refine Qa ?_;subst hL;simp only[pR];rw[aa fD,aa (by rw[hb];simp)]
  ·have aX:Je t sb a b=true:=by
    simp only[rq]at h4;by_cases hg:Je t sb a b=true
    ·exact hg
    ·rw[aa hg]at h4;simp at h4
   have ht:t=e0.t:=by
    simp only[rq]at h4;rw[am aX]at h4;simpa using h4
   refine Qa ?_;refine Qj (htx aX) (An @lK @Xel) ?_;refine ⟨k+1,⟨by omega,by rw[fY,aX,ht];simp⟩,⟨[],?_⟩,by omega⟩;exact Qi @ea
 ·have:k=L.length:=by omega
  subst this;rw[take_length]at bl ⊢;have hb:(Ut L).length<=10000000:=by rw[A8];omega
  have ht:0<=e0.t:=by
   subst hL;simp[nN,Je]at bl;omega
  have hm:=Qnw c.gl seq e0.t 300 (Ut L) hb ht af;have e2:pR seq L=Ug seq e0.t 300 (Ut L):=by
   subst hL;simp only[pR];rw[aa fD,am bl]
  rw[e2];clear e2;unfold Ug at hm ⊢;refine Qd @iK ?_;split at hm
  ·refine Qj hm @iK ?_;rw[am (by assumption)]
  ·refine Qj hm @iK ?_;rw[aa (by assumption)]
def Xvb:FT Tryz.prog 92 Tryz.f92 (aG Tryz.prog Tryz.f92) [.t 2]:=.of Tryz.func92
def Ycy:FT Tryz.prog 130 Tryz.f130 (aG Tryz.prog Tryz.f130) [.t 4]:=.of Tryz.func130
def Yci:FT Tryz.prog 132 Tryz.f132 (aG Tryz.prog Tryz.f132) [.cell 8 (.ag 10)]:=.of Tryz.func132
def Xp6:FT Tryz.prog 87 Tryz.f87 (aG Tryz.prog Tryz.f87) [.t 2]:=.of Tryz.func87
def Yw (ae st:Int):Int:=if ae=1 then 8 else if ae=17 then 20 else if st=2 then 60 else if st=1 then 4 else 6
def Xdz (ae st:Int):PS Tryz.prog gl 130 [.int .i64 ae,.int .i64 st] (.int .i64 (Yw ae st)):=by
 refine Ycy.ps (ap rfl) (by simp[Qe]) fun c hN hg=>?_
 conv in aG _ _=>cbv
 (refine XG ?_;((try with_reducible and_intros);all_goals try first|refine zm ?_|exact CL))
 (refine Qc (fun h1=>?_) (fun h1=>?_)<;>try exact h1.elim)
 ·(refine XG ?_;((try with_reducible and_intros);all_goals try first|refine zm ?_|exact CL))
  simp_all [Yw]
 (refine XG ?_;((try with_reducible and_intros);all_goals try first|refine zm ?_|exact CL))
 (refine Qc (fun h2=>?_) (fun h2=>?_)<;>try exact h2.elim)
 ·(refine XG ?_;((try with_reducible and_intros);all_goals try first|refine zm ?_|exact CL))
  simp_all [Yw]
 (refine XG ?_;((try with_reducible and_intros);all_goals try first|refine zm ?_|exact CL))
 (refine Qc (fun h3=>?_) (fun h3=>?_)<;>try exact h3.elim)
 ·(refine XG ?_;((try with_reducible and_intros);all_goals try first|refine zm ?_|exact CL))
  simp_all [Yw]
 (refine XG ?_;((try with_reducible and_intros);all_goals try first|refine zm ?_|exact CL))
 (refine Qc (fun h4=>?_) (fun h4=>?_)<;>try exact h4.elim)
 ·(refine XG ?_;((try with_reducible and_intros);all_goals try first|refine zm ?_|exact CL))
  simp_all [Yw]
 ·(refine XG ?_;((try with_reducible and_intros);all_goals try first|refine zm ?_|exact CL))
  simp_all [Yw]
def Ur (ae st sd du fl:Int)(bn:Bool)(now:Int):Int×Int×Int :=
 let b (n:Int):=bits .and .i64 fl n
 let side:Int:=if bn then 1 else 0
 let x:Int × Int × Bool:=if ae=6 then
   (if b 4≠0 then (4,sd,st != 4) else if st=1∧bn=true∧b 18=18 then (2,sd,true) else if st=2∧b 1≠0 then (3,side,true)
    else if st=3/\b 1≠0/\sd≠side then (4,sd,true) else if st=1 then (st,sd,!bn&&b 2 != 0) else (st,sd,st==2))
  else (st,sd,!(bn&&ae==17))
 (x.1,x.2.1,if x.2.2 then IntKind.i64.wrap (now+Yw ae x.1) else du)
def Zj (p s i a pt r rp st sd du:Int):List AV:=[.int .i64 p,.int .i64 s,.int .i64 i,.int .i64 a,.int .i64 pt,.int .i64 r,.int .i64 rp,.int .i64 st,.int .i64 sd,.int .i64 du]
def Xf7 (p s i a pt r rp st sd du:Int)(f1 f2 f3 f4 f5 f6 f7 fl f9 f10 f11:Int)(bd:List UInt8)(bn:Bool)(now:Int) :
  PS Tryz.prog gl 132 [.agg (Zj p s i a pt r rp st sd du),.agg [.int .i64 f1,.int .i64 f2,.int .i64 f3,.int .i64 f4,.int .i64 f5,.int .i64 f6,.int .i64 f7,.int .i64 fl,.int .i64 f9,.int .i64 f10,.int .i64 f11,.str bd],.bool bn,.int .i64 now]
   (.agg (Zj p s i a pt r rp (Ur p st sd du fl bn now).1 (Ur p st sd du fl bn now).2.1 (Ur p st sd du fl bn now).2.2)):=by
 refine Yci.ps (ap rfl) (by simp[Qe,ah,Zj]) fun c hN hg=>?_
 conv in aG _ _=>cbv
 (have aQ:=@Zj.eq_1;refine XG ?_;clear aQ;((try with_reducible and_intros);all_goals try first|refine zm ?_|exact CL))
 (repeat' (first|((refine Qc (fun hh=>?_) (fun hh=>?_)<;>try exact hh.elim)<;>(have aQ:=@Zj.eq_1;refine XG ?_;clear aQ;((try with_reducible and_intros);all_goals try first|refine zm ?_|exact CL)))|((first|apply Yy|apply Yh|apply Xo|apply Xg)<;>(first|exact (Xdz _ _ _)|(have aQ:=@Zj.eq_1;refine XG ?_;clear aQ;first|exact rfl|exact True.intro|((try with_reducible and_intros);all_goals try first|refine zm ?_|exact CL))))))
 all_goals simp_all [Ur]
 all_goals (split<;>simp_all)
structure Fl where
 map:Mp
 rem:Int
 rport:Int
 st:Int
 side:Int
 due:Int
 deriving DecidableEq
def Fl.enc (f:Fl):List AV:=Zj f.map.ae f.map.s f.map.aH f.map.a f.map.port f.rem f.rport f.st f.side f.due
structure Rp where
 code:Int
 frame:List UInt8
 inner:Bool
 log:List UInt8
def Rp.enc (r:Rp):List AV:=[.int .i64 r.code,.str r.frame,.bool r.inner,.str r.log]
def bN (e:Int):Rp:=⟨e,[],false,[]⟩
structure Ac where
 kind:Int
 n:Int
 draw:Int
 frame:List UInt8
def Ac.enc (a:Ac):List AV:=[.int .i64 a.kind,.int .i64 a.n,.int .i64 a.draw,.str a.frame]
structure NS where
 tb:Tb
 fl:List (Int×Fl)
 bH:Int
 now:Nat
 told:Nat
 ref:Nat
 bm:Nat
 loose:Bool
def NS.keys (S:NS):List Int:=S.fl.map (·.1)
def NS.aZ (S:NS):List Tm:=S.fl.map fun q=>⟨q.1,q.2.due.toNat⟩
def NS.findF (S:NS)(m:Mp)(r rp:Int):Int:=match S.fl.find? (fun q=>decide (q.2.map=m)&&q.2.rem==r&&q.2.rport==rp) with
 | some q=>q.1
 | none=>0
def Fl.next (f:Fl)(p:Pk)(bn:Bool)(now:Int):Fl :=
 let x:=Ur f.map.ae f.st f.side f.due p.flags bn now
 { f with st:=x.1,side:=x.2.1,due:=x.2.2 }
def NS.goes (S:NS)(k:Int)(p:Pk)(bn:Bool):NS:={ S with fl:=S.fl.map fun q=>if q.1=k then (q.1,q.2.next p bn S.now) else q }
def NS.begin (S:NS)(f:Fl):NS:={ S with bH:=S.bH+1,fl:=S.fl++[(S.bH+1,{ f with due:=S.now+Yw f.map.ae f.st })] }
def NS.ev (S:NS)(m:Mp)(free:Bool):Ev:=⟨S.now,m.s,m.a,Xd m.port,free⟩
def nP (told:Nat)(l:List Ev):List UInt8:=if l=[] then [] else (if told=0 then ki 0 0 2 (jA 6) else [])++ki told (l.headD ⟨0,0,0,0,false⟩).t 300 (Ut l)
def NS.log (S:NS)(l:List Ev):NS:={ S with told:=S.told+l.length }
def Wx (f:List UInt8)(side addr port:Int):List UInt8 :=
 if cH f≠0 then [] else if Wf (aC f) side addr port≠0 then [] else Uj f (aC f).ae (aC f).aN (vF side) (vG (aC f).ae side) addr port
def NS.refuse (S:NS)(f:List UInt8)(e:Int):Rp×NS :=
 if S.ref=0\/cH f≠0 then (bN e,S) else (⟨e,xu f (w4 f 12) S.ref,true,[]⟩,{ S with ref:=S.ref-1 })
def NS.aH (S:NS)(f:List UInt8):Rp×NS :=
 if cH f≠0 then (bN (cH f),S) else
 let p:=aC f
 let a:=p.dst-3405803777
 if a<0\/3<=a then (bN 7,S) else
 if p.ae=1/\p.flags≠0 then (bN 4,S) else
 if p.aN=1 then (bN 12,S) else
 match S.tb.maps.find? (Jd p.ae a p.aw) with
 | none=>(bN 7,S)
 | some m =>
  let go:Rp:=⟨0,Wx f 1 (167772161+m.s) m.aH,true,[]⟩
  if S.findF m p.aF p.aj≠0 then (go,S.goes (S.findF m p.aF p.aj) p true) else
  if S.loose=false/\(S.fl.any fun q=>decide (q.2.map=m)&&q.2.rem==p.aF)=false then (bN 11,S) else
  if p.ae≠17\/48<=S.fl.length then (bN 11,S) else
  (go,S.begin ⟨m,p.aF,p.aj,2,0,0⟩)
def NS.ff (S:NS)(f:List UInt8)(m:Mp)(es:List Ev):Rp×NS :=
 let g:=Wx f 0 (3405803777+m.a) m.port
 let S1:=S.log es
 let to:=(aC f).dst-3405803777
 if 0≤to∧to < 3 then
  let x:=S1.aH g
  ({ x.1 with log:=nP S.told es },x.2)
 else (⟨0,g,false,nP S.told es⟩,S1)
def Wr (ae:Int):Int:=if ae=6 then 1 else 2
def yg (ae flags:Int):Bool :=
 if ae=17 then true else if ae=1 then flags==8 else decide (ae=6)&&bits .and .i64 flags 23==2
noncomputable def NS.out (S:NS)(f:List UInt8)(draw:Int):Rp×NS :=
 if cH f≠0 then (bN (cH f),S) else
 let p:=aC f
 let s:=p.aF-167772161
 if s<0\/8<=s then (bN 7,S) else
 if p.ae=1/\p.flags≠8 then (bN 4,S) else
 if p.aN=1 then (bN 12,S) else
 let k:=match S.tb.maps.find? (Ya p.ae s p.aj) with
  | some m=>S.findF m p.dst p.aw
  | none=>0
 if k≠0 then
  match S.tb.maps.find? (Ya p.ae s p.aj) with
  | some m=>(S.goes k p false).ff f m []
  | none=>(bN 0,S)
 else
  if yg p.ae p.flags=false then (bN 11,S) else
  if 48<=S.fl.length then S.refuse f 6 else
  let o:=S.tb.cd p.ae s p.aj draw
  if o.2.2.2≠0 then S.refuse f o.2.2.2 else
  let S1:NS:={ S with tb:=o.1 }
  (S1.begin ⟨o.2.1,p.dst,p.aw,Wr p.ae,0,0⟩).ff f o.2.1 (if o.2.2.1 then [S1.ev o.2.1 false] else [])
noncomputable def cT (x:NS×List Ev)(k:Int):NS×List Ev :=
 match x.1.fl.find? (fun q=>q.1==k) with
 | none=>x
 | some q =>
  let S1:NS:={ x.1 with fl:=x.1.fl.filter fun r=>!(r.1==k) }
  if (S1.fl.any fun r=>decide (r.2.map=q.2.map)) then (S1,x.2) else
  let c:=S1.tb.cls q.2.map
  ({ S1 with tb:=c.1 },if c.2.1 then x.2++[S1.ev q.2.map true] else x.2)
noncomputable def NS.tick (S:NS)(d:Int):Rp×NS :=
 if d<1\/549755813888-S.now<d then (bN 2,S) else
 let S1:NS:={ S with now:=S.now+d.toNat,ref:=min 4 (S.ref+min d.toNat 4) }
 let x:=(a7 S.aZ (S.now+d.toNat+1)).foldl cT (S1,[])
 (⟨0,[],false,nP S.told x.2⟩,x.1.log x.2)
noncomputable def NS.step (S:NS)(a:Ac):Rp×NS :=
 if 300<=S.bm then (bN 6,S) else
 let S:NS:={ S with bm:=S.bm+1 }
 if a.kind=1 then S.out a.frame a.draw else
 if a.kind=2 then S.aH a.frame else
 if a.kind=3 then S.tick a.n else
 if a.kind=4∨a.kind=5 then
  let d:=S.tb.ai.drain a.n (decide (a.kind=4))
  (bN d.2,if d.2=0 then { S with tb:={ S.tb with ai:=d.1 } } else S)
 else (bN 4,S)
def NS.new (loose:Bool):NS:=⟨⟨⟨List.replicate 18 0,List.replicate 3 false⟩,List.replicate 8 0,[]⟩,[],0,0,0,4,0,loose⟩
def Ya2 (p q:Int×Fl):Prop:=p.2.map=q.2.map/\p.2.rem=q.2.rem/\p.2.rport=q.2.rport
structure NJ (S:NS):Prop where
 gt:GT S.tb
 wf:S.tb.wf
 ids:∀ q ∈ S.fl,1<=q.1/\q.1<=S.bH
 c4:S.fl.Pairwise fun p q=>p.1≠q.1
 len:S.fl.length<=48
 kB:∀ q ∈ S.fl,q.2.map ∈ S.tb.maps
 has:∀ m ∈ S.tb.maps,∃ q ∈ S.fl,q.2.map=m
 rJ:S.fl.Pairwise fun p q=>¬ Ya2 p q
 now:S.now<=549755813888
 lq:0<=S.bH
 ref:S.ref<=4
structure NI (S:NS):Prop extends NJ S where
 due:∀ q ∈ S.fl,(S.now:Int)<q.2.due/\q.2.due<=S.now+60
def NJ.ok {S:NS}(h:NJ S):S.tb.ok:=h.gt.ok h.wf
def GL (p s:Int):4<=Yw p s/\Yw p s<=60:=by
 unfold Yw
 (repeat' split)<;>omega
def Qvt (ae st sd du fl:Int)(bn:Bool){now:Int}(h0:0<=now)(h1:now<=549755813888):(Ur ae st sd du fl bn now).2.2=du\/∃ d,4<=d/\d<=60/\(Ur ae st sd du fl bn now).2.2=now+d:=by
 have key:∀ x:Int×Int×Bool,(if x.2.2=true then IntKind.i64.wrap (now+Yw ae x.1) else du)=du\/∃ d,4<=d/\d<=60/\(if x.2.2=true then IntKind.i64.wrap (now+Yw ae x.1) else du)=now+d:=fun x=>by
  split
  ·right;have:=GL ae x.1;refine ⟨Yw ae x.1,this.1,this.2,?_⟩;rw[IntKind.wrap_i64];omega
  ·exact .inl rfl
 exact key _
def NJ.begin {S:NS}(h:NJ S)  (hg:GT tb)(hw:tb.wf)(cD:∀ m ∈ S.tb.maps,m ∈ tb.maps){f:Fl}(cz:∀ m ∈ tb.maps,m ∈ S.tb.maps\/m=f.map)(aL:f.map ∈ tb.maps)(br:∀ q ∈ S.fl,¬ (q.2.map=f.map/\q.2.rem=f.rem/\q.2.rport=f.rport))(hl:S.fl.length<48):NJ (({ S with tb:=tb }:NS).begin f) where
 gt:=hg
 wf:=hw
 ids q hq:=by
  have h0:=h.lq;rcases mem_append.1 hq with hq|hq
  ·have:=h.ids q hq;show _/\q.1<=S.bH+1;omega
  ·obtain rfl:=mem_singleton.1 hq;show 1<=S.bH+1/\S.bH+1<=S.bH+1;omega
 c4:=by
  refine List.pairwise_append.2 ⟨h.c4,by simp,fun p hp q hq=>?_⟩;obtain rfl:=mem_singleton.1 hq;have:=h.ids p hp;show p.1≠S.bH+1;omega
 len:=by
  show (S.fl++[_]).length<=48;rw[List.length_append];simp;omega
 kB q hq:=by
  rcases mem_append.1 hq with hq|hq
  ·exact cD _ (h.kB q hq)
  ·obtain rfl:=mem_singleton.1 hq;exact aL
 has m hm:=by
  rcases cz m hm with h1|rfl
  ·obtain ⟨q,hq,e⟩:=h.has m h1;exact ⟨q,List.mem_append_left _ hq,e⟩
  ·exact ⟨_,List.mem_append_right _ (mem_singleton.2 rfl),rfl⟩
 rJ:=by
  refine List.pairwise_append.2 ⟨h.rJ,by simp,fun p hp q hq=>?_⟩;obtain rfl:=mem_singleton.1 hq;exact br p hp
 now:=h.now
 lq:=by have:=h.lq;show 0<=S.bH+1;omega
 ref:=h.ref
def NI.begin {S:NS}(h:NI S)  (hg:GT tb)(hw:tb.wf)(cD:∀ m ∈ S.tb.maps,m ∈ tb.maps){f:Fl}(cz:∀ m ∈ tb.maps,m ∈ S.tb.maps\/m=f.map)(aL:f.map ∈ tb.maps)(br:∀ q ∈ S.fl,¬ (q.2.map=f.map/\q.2.rem=f.rem/\q.2.rport=f.rport))(hl:S.fl.length<48):NI (({ S with tb:=tb }:NS).begin f) where
 toNJ:=h.toNJ.begin hg hw cD cz aL br hl
 due q hq:=by
  rcases mem_append.1 hq with hq|hq
  ·exact h.due q hq
  ·obtain rfl:=mem_singleton.1 hq;have:=GL f.map.ae f.st;show (S.now:Int)<S.now+Yw f.map.ae f.st/\(S.now:Int)+Yw f.map.ae f.st<=S.now+60;omega
def R5 {S:NS}{k:Int}{p:Pk}{bn:Bool}{q:Int×Fl}(hq:q ∈ (S.goes k p bn).fl):∃ r ∈ S.fl,q.1=r.1/\q.2.map=r.2.map/\q.2.rem=r.2.rem/\q.2.rport=r.2.rport/\(q.2=r.2\/q.2=r.2.next p bn S.now):=by
 obtain ⟨r,hr,rfl⟩:=mem_map.1 hq;refine ⟨r,hr,?_⟩;split
 ·exact ⟨rfl,rfl,rfl,rfl,.inr rfl⟩
 ·exact ⟨rfl,rfl,rfl,rfl,.inl rfl⟩
def NI.goes {S:NS}(h:NI S)(k:Int)(p:Pk)(bn:Bool):NI (S.goes k p bn) where
 gt:=h.gt
 wf:=h.wf
 ids q hq:=by
  obtain ⟨r,hr,e,_⟩:=R5 hq;rw[e];exact h.ids r hr
 c4:=by
  refine List.pairwise_map.2 (h.c4.imp fun {a b} AF=>?_)
  (repeat' split)<;>exact AF
 len:=by show (S.fl.map _).length<=48;rw[List.length_map];exact h.len
 kB q hq:=by
  obtain ⟨r,hr,_,e,_⟩:=R5 hq;rw[e];exact h.kB r hr
 has m hm:=by
  obtain ⟨q,hq,e⟩:=h.has m hm;refine ⟨_,mem_map.2 ⟨q,hq,rfl⟩,?_⟩;split<;>exact e
 rJ:=by
  refine List.pairwise_map.2 (h.rJ.imp fun {a b} AF=>?_)
  (repeat' split)<;>exact AF
 now:=h.now
 lq:=h.lq
 ref:=h.ref
 due q hq:=by
  obtain ⟨r,hr,_,_,_,_,e⟩:=R5 hq;have hd:=h.due r hr;rcases e with e|e
  ·rw[e];exact hd
  ·rw[e];rcases Qvt r.2.map.ae r.2.st r.2.side r.2.due p.flags bn (now:=S.now) af (by have:=h.now;omega) with e2|⟨d,h1,h2,e2⟩
   ·show (S.now:Int)<(Ur _ _ _ _ _ _ _).2.2/\(Ur _ _ _ _ _ _ _).2.2<=S.now+60;rw[e2];exact hd
   ·show (S.now:Int)<(Ur _ _ _ _ _ _ _).2.2/\(Ur _ _ _ _ _ _ _).2.2<=S.now+60;rw[e2];omega
def R6 {S:NS}  {r rp:Int}(h0:∀ q ∈ S.fl,1<=q.1)(h:S.findF m r rp=0):∀ q ∈ S.fl,¬ (q.2.map=m/\q.2.rem=r/\q.2.rport=rp):=by
 intro q hq ⟨e1,e2,e3⟩;unfold NS.findF at h;split at h
 ·rename_i x hx;have:=h0 x (List.mem_of_find?_eq_some hx);omega
 ·rename_i hx;have:=find?_eq_none.1 hx q hq;simp[e1,e2,e3]at this
def NJ.dl {x:NS×List Ev}(h:NJ x.1)(k:Int):NJ (cT x k).1:=by
 obtain ⟨S,es⟩:=x;unfold cT;dsimp only at h ⊢;cases hf:S.fl.find? (fun q=>q.1==k) with
 | none=>exact h
 | some q =>
  have hq:=List.mem_of_find?_eq_some hf;have hk:q.1=k:=by simpa using List.find?_some hf
  have cD:(S.fl.filter fun r=>!(r.1==k)).Sublist S.fl:=List.filter_sublist;have bQ:∀ r,r ∈ (S.fl.filter fun r=>!(r.1==k)) ↔ r ∈ S.fl/\r.1≠k:=fun r=>by simp
  dsimp only;split
  ·rename_i fg;obtain ⟨r,hr,er⟩:=any_eq_true.1 fg;have er:r.2.map=q.2.map:=by simpa using er
   exact ⟨h.gt,h.wf,fun r hr=>h.ids r (cD.subset hr),h.c4.sublist cD,Nat.le_trans cD.length_le h.len,fun r hr=>h.kB r (cD.subset hr),fun m hm=>by
    obtain ⟨p,hp,e⟩:=h.has m hm;by_cases mg:p.1=k
    ·have:p=q:=by
      have iG:=pairwise_iff_getElem.1 h.c4;obtain ⟨i,hi,rfl⟩:=getElem_of_mem hp;obtain ⟨j,hj,rfl⟩:=getElem_of_mem hq;rcases Nat.lt_trichotomy i j with h1|h1|h1
      ·exact (iG i j hi hj h1 (by rw[mg,hk])).elim
      ·subst h1;rfl
      ·exact (iG j i hj hi h1 (by rw[mg,hk])).elim
     subst this;exact ⟨r,hr,er.trans e⟩
    ·exact ⟨p,(bQ p).2 ⟨hp,mg⟩,e⟩,h.rJ.sublist cD,h.now,h.lq,h.ref⟩
  ·rename_i fg;obtain ⟨i,hi,R7,g1,g2,g3,g4⟩:=h.gt.cls h.wf (h.kB q hq);have br:∀ r ∈ (S.fl.filter fun r=>!(r.1==k)),r.2.map≠q.2.map:=fun r hr e=>fg (any_eq_true.2 ⟨r,hr,by simpa using e⟩);have CW:∀ o ∈ S.tb.maps.eraseIdx i,o≠q.2.map:=fun o ho e=>by
    have:=find?_eq_none.1 (Yk2 h.gt R7) o ho;rw[e]at this;exact this (Qpw _)
   exact ⟨g1,g2,fun r hr=>h.ids r (cD.subset hr),h.c4.sublist cD,Nat.le_trans cD.length_le h.len,fun r hr=>by
     rw[g3];obtain ⟨j,hj,e⟩:=getElem_of_mem (h.kB r (cD.subset hr));refine List.mem_eraseIdx_iff_getElem.2 ⟨j,hj,fun e2=>?_,e⟩;subst e2;rw[List.getElem?_eq_getElem hj]at R7;exact br r hr (e.symm.trans (Option.some.inj R7)),fun m hm=>by
     have lR:m ∈ S.tb.maps.eraseIdx i:=by rw[<- g3];exact hm
     obtain ⟨p,hp,e⟩:=h.has m (List.mem_of_mem_eraseIdx lR);refine ⟨p,(bQ p).2 ⟨hp,fun mg=>?_⟩,e⟩;have:p=q:=by
      have iG:=pairwise_iff_getElem.1 h.c4;obtain ⟨i,hi,rfl⟩:=getElem_of_mem hp;obtain ⟨j,hj,rfl⟩:=getElem_of_mem hq;rcases Nat.lt_trichotomy i j with h1|h1|h1
      ·exact (iG i j hi hj h1 (by rw[mg,hk])).elim
      ·subst h1;rfl
      ·exact (iG j i hj hi h1 (by rw[mg,hk])).elim
     subst this;exact CW m lR e.symm,h.rJ.sublist cD,h.now,h.lq,h.ref⟩
def Fl.zero:List AV:=[.int .i64 0,.int .i64 0,.int .i64 0,.int .i64 0,.int .i64 0,.int .i64 0,.int .i64 0,.int .i64 0,.int .i64 0,.int .i64 0]
def gJ (l:List (Int×Fl)):List (AV×AV):=l.map fun q=>(.int .i64 q.1,.agg q.2.enc)
def nQ:cu Tryz.prog 89 false [.int .i64] (.agg Fl.zero):=cu.mk' (by kernel_rfl)
structure NB (S:NS):Prop where
 wf:S.tb.wf
 ids:∀ q ∈ S.fl,1<=q.1/\q.1<=S.bH
 c4:S.fl.Pairwise fun p q=>p.1≠q.1
 now:S.now<=549755813888
 lq:0<=S.bH
def NJ.nb {S:NS}(h:NJ S):NB S:=⟨h.wf,h.ids,h.c4,h.now,h.lq⟩
def NB.pS {S:NS}(h:NB S)  (hw:tb.wf):NB { S with tb:=tb }:=⟨hw,h.ids,h.c4,h.now,h.lq⟩
def NS.tl (S:NS):List AV:=[.mp 68,.sl 1 69 0 S.fl.length S.fl.length,.int .i64 S.bH,.ptr 0 0,.int .i64 S.told,.int .i64 S.ref,.int .i64 S.bm,.bool S.loose]
def NS.cells (S:NS):List AV:=S.tb.enc++S.tl
def Qn (S:NS)(T:WT):List (Nat×Bk):=(67,.cells S.cells)::(68,.az (gJ S.fl) false)::(69,.cells (Ql S.keys))::T.hb
def NS.aU {S:NS}(h:S.tb.wf):S.cells.length=38:=by simp[NS.cells,NS.tl,Tb.au h]
def NS.fE {S:NS}(h:S.tb.wf):S.cells.take 30=S.tb.enc:=by
 unfold NS.cells;rw[<- Tb.au h,List.take_left]
def NS.cO {S:NS}(h:S.tb.wf)(j:Nat):S.cells.getD (30+j) .any=S.tl.getD j .any:=by
 unfold NS.cells;rw[<- Tb.au h];simp[List.getD,List.getElem?_append_right]
def NS.dR {S:NS}(h:S.tb.wf)(j:Nat)(v:AV):S.cells.set (30+j) v=S.tb.enc++S.tl.set j v:=by
 unfold NS.cells;rw[List.set_append,aa (by rw[Tb.au h];omega),Tb.au h,Nat.add_sub_cancel_left]
def NS.fF {S:NS}(h:S.tb.wf):S.cells.getD 30 .any=.mp 68:=NS.cO h 0
def NS.ke {S:NS}(h:S.tb.wf):S.cells.getD 31 .any=.sl 1 69 0 S.fl.length S.fl.length:=NS.cO h 1
def NS.LW {S:NS}(h:S.tb.wf):S.cells.getD 32 .any=.int .i64 S.bH:=NS.cO h 2
def NS.iI {S:NS}(h:S.tb.wf):S.cells.getD 33 .any=.ptr 0 0:=NS.cO h 3
def NS.tq {S:NS}(h:S.tb.wf):S.cells.getD 34 .any=.int .i64 S.told:=NS.cO h 4
def NS.wx {S:NS}(h:S.tb.wf):S.cells.getD 35 .any=.int .i64 S.ref:=NS.cO h 5
def NS.GN {S:NS}(h:S.tb.wf):S.cells.getD 36 .any=.int .i64 S.bm:=NS.cO h 6
def NS.yh {S:NS}(h:S.tb.wf):S.cells.getD 37 .any=.bool S.loose:=NS.cO h 7
def Xp7 (l:List (Int×Fl)):∀ q ∈ gJ l,Qe n q.1/\Qe n q.2:=fun q hq=>by
 obtain ⟨t,_,rfl⟩:=mem_map.1 hq;simp[Qe,ah,Fl.enc,Zj]
def NS.tr (S:NS):ah 70 S.cells:=by
 simp[NS.cells,NS.tl,B7,Tb.bY,ah,Qe]
def Qo {S:NS}{T:WT}(hT:T.wf):HL (Qn S T) 70 where
 mem q hq:=by
  rcases mem_cons.1 hq with rfl|hq
  ·exact ⟨(by decide:67<70),NS.tr S⟩
  rcases mem_cons.1 hq with rfl|hq
  ·exact ⟨(by decide:68<70),Xp7 70 _⟩
  rcases mem_cons.1 hq with rfl|hq
  ·exact ⟨(by decide:69<70),by simp[bX,qM]⟩
  ·have:=(WT.iA hT).mem q hq;exact ⟨by omega,rE aJ this.2⟩
 jV b hb:=by
  by_cases h:b<67
  ·obtain ⟨q,hq,e⟩:=(WT.iA hT).jV b h;exact ⟨q,by simp[Qn,hq],e⟩
  ·rcases (by omega:b=67∨b=68∨b=69) with rfl|rfl|rfl
   ·exact ⟨_,mem_cons_self,rfl⟩
   ·exact ⟨_,mem_cons_of_mem _ mem_cons_self,rfl⟩
   ·exact ⟨_,mem_cons_of_mem _ (mem_cons_of_mem _ mem_cons_self),rfl⟩
 self q hq:=by
  unfold Qn;rcases mem_cons.1 hq with rfl|hq
  ·rfl
  rcases mem_cons.1 hq with rfl|hq
  ·rfl
  rcases mem_cons.1 hq with rfl|hq
  ·rfl
  ·have h1:=((WT.iA hT).mem q hq).1;rw[Qf,aa af,Qf,aa af,Qf,aa af,((WT.iA hT).live h1 70).1];exact (WT.iA hT).self q hq
def Yfh:FT Tryz.prog 20 Tryz.f20 (aG Tryz.prog Tryz.f20) [.cell 4 (.ag 4)]:=.of Tryz.func20
def Yaj:FT Tryz.prog 21 Tryz.f21 (aG Tryz.prog Tryz.f21) [.t 2]:=.of Tryz.func21
def Xtz:FT Tryz.prog 23 Tryz.f23 (aG Tryz.prog Tryz.f23) [.cell 2 (.ag 30)]:=.of Tryz.func23
def Qtm:FT Tryz.prog 24 Tryz.f24 (aG Tryz.prog Tryz.f24) [.t 2]:=.of Tryz.func24
def Xas:FT Tryz.prog 86 Tryz.f86 (aG Tryz.prog Tryz.f86) [.t 8]:=.of Tryz.func86
def Xkn:FT Tryz.prog 88 Tryz.f88 (aG Tryz.prog Tryz.f88) [.cell 6 (.ag 4)]:=.of Tryz.func88
def Xof:FT Tryz.prog 90 Tryz.f90 (aG Tryz.prog Tryz.f90) [.t 6]:=.of Tryz.func90
def Xsf:FT Tryz.prog 91 Tryz.f91 (aG Tryz.prog Tryz.f91) []:=.of Tryz.func91
def Qwm:FT Tryz.prog 93 Tryz.f93 (aG Tryz.prog Tryz.f93) []:=.of Tryz.func93
def Yaa:FT Tryz.prog 95 Tryz.f95 (aG Tryz.prog Tryz.f95) [.t 4]:=.of Tryz.func95
def Ybe:FT Tryz.prog 97 Tryz.f97 (aG Tryz.prog Tryz.f97) [.t 5]:=.of Tryz.func97
def Xou:FT Tryz.prog 100 Tryz.f100 (aG Tryz.prog Tryz.f100) [.t 3]:=.of Tryz.func100
def Xm6:FT Tryz.prog 101 Tryz.f101 (aG Tryz.prog Tryz.f101) [.t 4]:=.of Tryz.func101
def Yd0:FT Tryz.prog 58 Tryz.f58 (aG Tryz.prog Tryz.f58) [.cell 4 (.ag 4)]:=.of Tryz.func58
def Yfi:FT Tryz.prog 59 Tryz.f59 (aG Tryz.prog Tryz.f59) [.cell 4 (.ag 4)]:=.of Tryz.func59
def R8:FT Tryz.prog 60 Tryz.f60 (aG Tryz.prog Tryz.f60) [.cell 4 (.ag 4)]:=.of Tryz.func60
def Ybg:FT Tryz.prog 28 Tryz.f28 (aG Tryz.prog Tryz.f28) [.t 2]:=.of Tryz.func28
def Ydw:FT Tryz.prog 96 Tryz.f96 (aG Tryz.prog Tryz.f96) [.t 4]:=.of Tryz.func96
def LX:FT Tryz.prog 136 Tryz.f136 (aG Tryz.prog Tryz.f136) [.t 4]:=.of Tryz.func136
def Xdl:FT Tryz.prog 99 Tryz.f99 (aG Tryz.prog Tryz.f99) [.t 4]:=.of Tryz.func99
def A9 (l:List (Int×Fl)):Wy false [.int .i64] (gJ l):=fun q hq=>by
 obtain ⟨t,_,rfl⟩:=mem_map.1 hq;rfl
def LY (l:List (Int×Fl))(x:Int):fA (gJ l) (.int .i64 x)=l.findIdx? fun q=>q.1==x:=by
 unfold fA gJ
 induction l with
 | nil=>rfl
 | cons t D ih =>
  simp only[map_cons,List.findIdx?_cons];rw[ih];by_cases h:t.1=x
  ·simp[h]
  ·simp[h]
def R9 {l:List (Int×Fl)}(hd:l.Pairwise fun p q=>p.1≠q.1)  (hi:i<l.length):l.findIdx? (fun q=>q.1==l[i].1)=some i:=by
 rw[List.findIdx?_eq_some_iff_getElem];refine ⟨hi,by simp,fun j hj=>?_⟩;have:=(pairwise_iff_getElem.1 hd) j i af hi hj;simpa using this
def Sa {l:List (Int×Fl)}(hd:l.Pairwise fun p q=>p.1≠q.1)  (hi:i<l.length)(z:AV):Kk (gJ l) (.int .i64 l[i].1) z=.agg l[i].2.enc:=by
 unfold Kk;rw[LY,R9 hd hi];simp[gJ,List.getD,hi]
def Xza {l:List (Int×Fl)}{x:Int}(h:∀ q ∈ l,q.1≠x)(f:Fl):Jy (gJ l) (.int .i64 x) (.agg f.enc)=gJ (l++[(x,f)]):=by
 unfold Jy;rw[LY,List.findIdx?_eq_none_iff.2 fun t ht=>by simpa using h t ht];simp[gJ]
def Ycp {l:List (Int×Fl)}(hd:l.Pairwise fun p q=>p.1≠q.1)  (hi:i<l.length)(f:Fl):Jy (gJ l) (.int .i64 l[i].1) (.agg f.enc)=gJ (l.map fun q=>if q.1=l[i].1 then (q.1,f) else q):=by
 unfold Jy;rw[LY,R9 hd hi];refine List.ext_getElem (by simp[gJ]) fun j h1 h2=>?_;have hj:j<l.length:=by simpa [gJ] using h1
 simp only[gJ,List.getElem_set,List.getElem_map];by_cases e:i=j
 ·subst e;simp
 ·rw[aa e,aa];intro e2;have hp:=pairwise_iff_getElem.1 hd;rcases Nat.lt_or_gt_of_ne e with h|h
  ·exact hp i j hi hj h e2.symm
  ·exact hp j i hj hi h e2
def Qlf (S:NS)  (hi:i<S.fl.length):(Ql S.keys).getD i .any=.int .i64 S.fl[i].1:=by
 simp[Ql,NS.keys,List.getD,hi]
def uK (S:NS):(Ql S.keys).length=S.fl.length:=by simp[Ql,NS.keys]
def Xy9 {S:NS}  {r rp:Int}  (hi:i<S.fl.length)(br:∀ q ∈ S.fl.take i,¬ (q.2.map=m/\q.2.rem=r/\q.2.rport=rp))(h:S.fl[i].2.map=m/\S.fl[i].2.rem=r/\S.fl[i].2.rport=rp):S.findF m r rp=S.fl[i].1:=by
 have hs:S.fl=S.fl.take i++S.fl[i]::S.fl.drop (i+1):=by rw[<- List.drop_eq_getElem_cons hi,List.take_append_drop]
 have hf:S.fl.find? (fun q=>decide (q.2.map=m)&&q.2.rem==r&&q.2.rport==rp)=some S.fl[i]:=by
  conv=>lhs;rw[hs]
  rw[List.find?_append,find?_eq_none.2 fun q hq=>by have:=br q hq;simpa using this,List.find?_cons];simp[h.1,h.2.1,h.2.2]
 unfold NS.findF;rw[hf]
def Xk0 {S:NS}  {r rp:Int}(br:∀ q ∈ S.fl,¬ (q.2.map=m/\q.2.rem=r/\q.2.rport=rp)):S.findF m r rp=0:=by
 unfold NS.findF;rw[find?_eq_none.2 fun q hq=>by have:=br q hq;simpa using this]
def Ko {S:NS}{T:WT}(hT:T.wf)(n b:Nat)(hb:70<=b):Qb (Qn S T) n b=if b<n then .dead else .free:=by
 unfold Qn;rw[Qf,aa af,Qf,aa af,Qf,aa af,WT.qI hT n b af]
theorem lr (S:NS)(T:WT)(n:Nat):Qb (Qn S T) n 67=.cells S.cells:=rfl
theorem yi (S:NS)(T:WT)(n:Nat):Qb (Qn S T) n 68=.az (gJ S.fl) false:=rfl
theorem yj (S:NS)(T:WT)(n:Nat):Qb (Qn S T) n 69=.cells (Ql S.keys):=rfl
def Ub {S:NS}{T:WT}(hT:T.wf):∀ q ∈ Qn S T,q.2.live:=fun q hq=>Xa ((Qo hT).mem q hq).2
def To.jM {S:NS}{T:WT}{n:Nat}(hT:T.wf)(hex:∀ q ∈ ex,70<=q.1)(hp:∀ b ∈ p,b<70)(ht:Qs id 70 t t'):To p ⟨t,ex++Qn S T,n⟩ ⟨t',Qn S T,70⟩:=by
 have fH:∀ b,b<70->Qb (ex++Qn S T) n b=Qb (Qn S T) 70 b:=fun b hb=>by
  rw[Xl fun q hq e=>by have:=hex q hq;omega];exact ((Qo hT).live hb n).1
 refine To.lk id (fun b hb=>⟨rfl,hp b hb⟩) (fun b dJ=>?_) (fun b hb gH=>?_) (fun b hb=>Ko hT 70 b hb |>.trans (aa (by have hb:70<=b:=hb;omega))) (fun b b' _ _ _ _ e=>e) (fun b hb dJ=>?_) ht
 ·by_cases h:b < 70
  ·exact h
  ·have dJ:(Qb (Qn S T) 70 b).live:=dJ;rw[Ko hT 70 b af,aa h]at dJ;exact dJ.elim
 ·obtain ⟨_,q,hq,_,e⟩:=(Qo (S:=S) hT).live hb 70;exact (gH (by show (Qb (Qn S T) 70 b).live;rw[e];exact Xa ((Qo hT).mem q hq).2)).elim
 ·obtain ⟨_,q,hq,_,e⟩:=(Qo (S:=S) hT).live hb 70;refine ⟨?_,?_⟩
  ·show bX 70 (Qb (Qn S T) 70 b);rw[e];exact ((Qo hT).mem q hq).2
  ·show Qb (ex++Qn S T) n b=Qw id (Qb (Qn S T) 70 b);rw[fH b hb,ru]
def To.tt {S:NS}{T:WT}  {n:Nat}(hT:T.wf)(hex:∀ q ∈ ex,71<=q.1)(hx:bX 70 x)(hp:∀ b ∈ p,b<70)(ht:Qs id 71 t t'):To p ⟨t,ex++(70,x)::Qn S T,n⟩ ⟨t',(70,x)::Qn S T,71⟩:=by
 have hl:∀ b,b<70->Qb ((70,x)::Qn S T) 71 b=Qb (Qn S T) 70 b:=fun b hb=>by
  rw[Qf,aa af];exact ((Qo hT).live hb 71).1
 have xV:Qb ((70,x)::Qn S T) 71 70=x:=by rw[Qf,am rfl]
 have hs:∀ b,b<71->Qb (ex++(70,x)::Qn S T) n b=Qb ((70,x)::Qn S T) 71 b:=fun b hb=>by
  rw[Xl fun q hq e=>by have:=hex q hq;omega];by_cases h:b=70
  ·subst h;rw[xV,Qf,am rfl]
  ·rw[hl b af,Qf,aa af];exact ((Qo hT).live af n).1
 have lz:∀ b,b<71->(Qb ((70,x)::Qn S T) 71 b).live/\bX 70 (Qb ((70,x)::Qn S T) 71 b):=fun b hb=>by
  by_cases h:b=70
  ·subst h;rw[xV];exact ⟨Xa hx,hx⟩
  ·rw[hl b af];obtain ⟨_,q,hq,_,e⟩:=(Qo (S:=S) hT).live (show b<70 by omega) 70;rw[e];have:=((Qo hT).mem q hq).2;exact ⟨Xa this,this⟩
 have CP:∀ b,71<=b->Qb ((70,x)::Qn S T) 71 b=.free:=fun b hb=>by
  rw[Qf,aa af,Ko hT 71 b af,aa af]
 refine To.lk id (fun b hb=>⟨rfl,by have:=hp b hb;show b<71;omega⟩) (fun b dJ=>?_) (fun b hb gH=>(gH (lz b hb).1).elim) (fun b hb=>CP b hb) (fun b b' _ _ _ _ e=>e) (fun b hb dJ=>⟨rE (show 70<=71 by decide) (lz b hb).2,by show Qb (ex++(70,x)::Qn S T) n b=Qw id (Qb ((70,x)::Qn S T) 71 b);rw[hs b hb,ru]⟩) ht;by_cases h:b<71
 ·exact h
 ·have dJ:(Qb ((70,x)::Qn S T) 71 b).live:=dJ;rw[CP b af]at dJ;exact dJ.elim
set_option maxRecDepth 20000 in
def Qy4 (S:NS)(T:WT)(hS:NJ S)(hT:T.wf)(m:Mp)(r rp:Int):GD Tryz.prog gl 86 [.ptr 67 0,.agg m.enc,.int .i64 r,.int .i64 rp] (Qn S T) 70 (List.range 70) (.int .i64 (S.findF m r rp)) (Qn S T):=by
 refine Xas.gq (ap rfl) (Ub hT) (fun b hb=>mem_range.1 hb) fun c bf hg=>?_
 conv in aG _ _=>cbv
 have aW:=fun n b hb=>Ko (S:=S) hT n b hb;have cq:=lr S T;have tu:=yi S T;have yk:=yj S T;have aY:=NS.aU hS.wf;have fF:=NS.fF hS.wf;have ke:=NS.ke hS.wf;have fO:=uK S;obtain ⟨mp,ms,mi,ma,mt⟩:=m;unfold Mp.enc;refine Qd (An @aW (An @cq (An @aY @ke))) ?_
 refine Yn (fun k:Nat=>k≤S.fl.length∧∀ q ∈ S.fl.take k,¬ (q.2.map=⟨mp,ms,mi,ma,mt⟩∧q.2.rem=r∧q.2.rport=rp)) (fun k=>⟨[(0,.ptr 67 0),(2,.int .i64 r),(3,.int .i64 rp),(5,.ptr 70 0),(15,.sl 1 69 0 S.fl.length S.fl.length),(16,.int .i64 S.fl.length),(17,.int .i64 k)],(70,.cells [.int .i64 mp,.int .i64 ms,.int .i64 mi,.int .i64 ma,.int .i64 mt])::Qn S T,71⟩) (fun k=>S.fl.length - k) Xas.mixed (List.range 70) bf
  ⟨0,⟨by omega,by simp⟩,To.fK (by exact Qp) fun b=>rfl⟩ fun k hk=>?_
 obtain ⟨hk,br⟩:=hk;have h48:=hS.len;refine Qa ?_;refine Qc ?_ ?_<;>intro h1
 ·have bg:k < S.fl.length:=by omega
  have lB:=Qlf S bg;have fc:=Sa hS.c4 bg (.agg Fl.zero);have eb:=A9 S.fl;have eM:=rG S.fl[k].1;have uf:=Xy9 (S:=S) (m:=⟨mp,ms,mi,ma,mt⟩) (r:=r) (rp:=rp) bg br;have nK:¬ (S.fl[k].2.map=⟨mp,ms,mi,ma,mt⟩/\S.fl[k].2.rem=r/\S.fl[k].2.rport=rp)->∀ q ∈ S.fl.take (k+1),¬ (q.2.map=⟨mp,ms,mi,ma,mt⟩/\q.2.rem=r/\q.2.rport=rp):=fun h q hq=>by
   rw[List.take_succ,mem_append]at hq;rcases hq with hq|hq
   ·exact br q hq
   ·simp[bg]at hq;subst hq;exact h
  generalize S.fl[k]=q at *
  obtain ⟨x,⟨⟨p0,p1,p2,p3,p4⟩,g0,g1,g2,g3,g4⟩⟩:=q;unfold Fl.enc Zj at fc;dsimp only at fc uf nK lB eM;have heq:=@xL c false ⟨p0,p1,p2,p3,p4⟩ ⟨mp,ms,mi,ma,mt⟩;unfold Mp.enc at heq;dsimp only at heq;refine Qd (An @yk (An @fO (An @lB (An @cq (An @aY @fF))))) ?_;refine Ul nQ (An @tu (An @eb (An @eM (An @fc @aW)))) ?_;by_cases hm:(⟨p0,p1,p2,p3,p4⟩:Mp)=⟨mp,ms,mi,ma,mt⟩
  ·rw[decide_eq_true hm]at heq;by_cases hr:g0=r∧g1=rp
   ·have f1:(g0==r)=true:=beq_iff_eq.2 hr.1;have f2:(g1==rp)=true:=beq_iff_eq.2 hr.2;have e:=uf ⟨hm,hr.1,hr.2⟩;refine Qj heq @aW ?_;refine Qd (An @f1 @f2) ?_;refine Yc ?_;refine Qa ?_;refine ⟨(),?_⟩;rw[e];exact To.jM (ex:=[(71,_),(71,_),(70,_)]) hT av (fun b hb=>mem_range.1 hb) (by simp[Qs,Qe,look,aB])
   ·have AY:=nK fun h=>hr ⟨h.2.1,h.2.2⟩;by_cases h0:g0=r
    ·have f1:(g0==r)=true:=beq_iff_eq.2 h0;have f2:(g1==rp)=false:=beq_eq_false_iff_ne.2 fun e=>hr ⟨h0,e⟩;refine Qj heq @aW ?_;refine Qd (An @f1 @f2) ?_;refine Yc ?_;refine Qa ?_;exact ⟨k+1,⟨by omega,AY⟩,To.tt (ex:=[(71,_),(71,_)]) hT av (by simp[bX,ah,Qe]) (fun b hb=>mem_range.1 hb) (by simp[Qs,Qe,ah,look,aB]),by omega⟩
    ·have f1:(g0==r)=false:=beq_eq_false_iff_ne.2 h0;refine Qj heq @aW ?_;refine Qd @f1 ?_;refine Yc ?_;refine Qa ?_;exact ⟨k+1,⟨by omega,AY⟩,To.tt (ex:=[(71,_),(71,_)]) hT av (by simp[bX,ah,Qe]) (fun b hb=>mem_range.1 hb) (by simp[Qs,Qe,ah,look,aB]),by omega⟩
  ·have AY:=nK fun h=>hm h.1;rw[decide_eq_false hm]at heq;refine Qj heq @aW ?_;refine Yc ?_;refine Qa ?_;exact ⟨k+1,⟨by omega,AY⟩,To.tt (ex:=[(71,_),(71,_)]) hT av (by simp[bX,ah,Qe]) (fun b hb=>mem_range.1 hb) (by simp[Qs,Qe,ah,look,aB]),by omega⟩
 ·obtain rfl:k=S.fl.length:=by omega
  rw[take_length]at br;rw[Xk0 br];refine Qa ?_;exact ⟨(),To.jM (ex:=[(70,_)]) hT av (fun b hb=>mem_range.1 hb) (by simp[Qs,Qe,look,aB])⟩
def To.Sb {h:List (Nat×Bk)}{S:NS}{T:WT}{n:Nat}(ρ:Nat->Nat)(hT:T.wf)(hp:∀ b ∈ p,ρ b=b/\b<70)(ct:∀ b b',b<70->b'<70->ρ b=ρ b'->b=b')(hl:∀ b,b<70->Qb h n (ρ b)=Qw ρ (Qb (Qn S T) 70 b))(ht:Qs ρ 70 t t'):To p ⟨t,h,n⟩ ⟨t',Qn S T,70⟩:=by
 refine To.lk ρ (fun b hb=>hp b hb) (fun b dJ=>?_) (fun b hb gH=>?_) (fun b hb=>Ko hT 70 b hb |>.trans (aa (by have hb:70<=b:=hb;omega))) (fun b b' hb bL _ _ e=>ct b b' hb bL e) (fun b hb dJ=>?_) ht
 ·by_cases h:b < 70
  ·exact h
  ·have dJ:(Qb (Qn S T) 70 b).live:=dJ;rw[Ko hT 70 b af,aa h]at dJ;exact dJ.elim
 ·obtain ⟨_,q,hq,_,e⟩:=(Qo (S:=S) hT).live hb 70;exact (gH (by show (Qb (Qn S T) 70 b).live;rw[e];exact Xa ((Qo hT).mem q hq).2)).elim
 ·obtain ⟨_,q,hq,_,e⟩:=(Qo (S:=S) hT).live hb 70;refine ⟨?_,hl b hb⟩;show bX 70 (Qb (Qn S T) 70 b);rw[e];exact ((Qo hT).mem q hq).2
def Xoo {S S':NS}{T:WT}  {n:Nat}(ib:S'.fl=S.fl)(hex:∀ q ∈ ex,70<=q.1\/q=(67,Bk.cells S'.cells))(cq:Qb (ex++Qn S T) n 67=.cells S'.cells)(hT:T.wf):∀ b,b<70->Qb (ex++Qn S T) n (id b)=Qw id (Qb (Qn S' T) 70 b):=fun b hb=>by
 rw[ru];show Qb (ex++Qn S T) n b=_;by_cases h:b=67
 ·subst h;rw[cq];rfl
 ·rw[Xl fun q hq e=>(hex q hq).elim (fun h1=>by omega) fun h1=>h (by rw[h1]at e;exact e.symm),((Qo (S:=S) hT).live hb n).1];unfold Qn NS.keys;rw[ib];simp only[Qf]
  (repeat' split)<;>first|rfl|omega
def NS.GR {S:NS}(h:S.tb.wf)(v:Nat):S.cells.set 35 (.int .i64 v)=({ S with ref:=v }:NS).cells:=NS.dR h 5 _
def Qr7 (S:NS)(T:WT)(hS:NJ S)(hT:T.wf)(f:List UInt8)(hf:f.length<=140737488351232)(e:Int):GD Tryz.prog gl 88 [.ptr 67 0,.str f,.int .i64 e] (Qn S T) 70 (List.range 70) (.agg (S.refuse f e).1.enc) (Qn (S.refuse f e).2 T):=by
 refine Xkn.gq (ap rfl) (Ub hT) (fun b hb=>mem_range.1 hb) fun c bf hg=>?_
 conv in aG _ _=>cbv
 have aW:=fun n b hb=>Ko (S:=S) hT n b hb;have cq:=lr S T;have aY:=NS.aU hS.wf;have wx:=NS.wx hS.wf;have hR:=Xqn c.gl f S.ref hf;have Sc:=hS.ref;unfold NS.refuse;refine Qd (An @aW (An @cq (An @aY @wx))) ?_;refine Qc ?_ ?_<;>intro h1
 ·rw[am (.inl af)];unfold bN Rp.enc;refine Qd @aW ?_;exact ⟨(),To.jM (ex:=[(70,_),(70,_)]) hT av (fun b hb=>mem_range.1 hb) (by simp[Qs,Qe,ah,look,aB,ay])⟩
 by_cases he:cH f=0
 ·unfold Wb at hR;rw[aa af,aa af]at hR;rw[aa af];have tv:=NS.GR hS.wf (S.ref - 1);have cD:(S.ref:Int) - 1=((S.ref - 1:Nat):Int):=by omega
  unfold Rp.enc;refine Qd (An @aW (An @cq (An @aY @wx))) ?_;refine Xc hR ?_;refine Qa ?_;refine Yc ?_;refine Qd (An @aW (An @cq (An @aY (An @wx (An @cD @tv))))) ?_;exact ⟨(),To.Sb id hT (fun b hb=>⟨rfl,mem_range.1 hb⟩) (fun b b' _ _ e=>e) (Xoo (S':={ S with ref:=S.ref-1 }) (ex:=[(70,_),(67,_),(70,_)]) rfl av rfl hT) (by simp[Qs,Qe,ah,look,aB,ay])⟩
 ·have cp:Wb f S.ref=.aR [.str [],.int .i64 (cH f)]:=am he;rw[cp]at hR;rw[am (.inr he)];unfold bN Rp.enc;refine Qd (An @aW (An @cq (An @aY @wx))) ?_;refine Xc hR ?_;refine Qa ?_;refine Qc ?_ ?_<;>intro h2
  ·refine Qd @aW ?_;exact ⟨(),To.jM (ex:=[(70,_),(70,_)]) hT av (fun b hb=>mem_range.1 hb) (by simp[Qs,Qe,ah,look,aB,ay])⟩
  ·exact absurd h2 he
def Xiv (l:List Ev)(kN:l.length<=4611686018427387904) :
  PS Tryz.prog gl 135 [.int .i64 seq,.isl l.length (Xj l)] (pR seq l):=by
 refine WB.ps (ap rfl) (Qza _ _ _) fun c hN hg=>?_
 conv in aG _ _=>cbv
 have hl:=yf l;refine Qa ?_;refine Qc ?_ ?_<;>intro h1
 ·have:l=[]:=List.eq_nil_of_length_eq_zero af;subst this;refine Qa ?_;rfl
 obtain ⟨e0,l0,hL⟩:∃ e0 l0,e0::l0=l:=by
  cases l with
  | nil=>simp at h1
  | cons e l=>exact ⟨e,l,rfl⟩
 have iK:(Xj l).getD 0 .any=.int .i64 e0.t:=by
  have:=Qzb (e0::l0) 0 av 0 aJ;simp only[List.getElem_cons_zero,Ev.enc,List.getD_cons_zero,Nat.zero_mul,Nat.zero_add]at this;rw[<- hL];exact this
 refine Qa ?_;refine Qc ?_ ?_<;>intro h2
 ·refine Qa ?_;subst hL;simp only[pR];rw[am (by simp only[length_cons]at h2;omega)]
 have hlen:l.length<=64:=by omega
 have fD:¬ 64<l0.length+1:=by rw[<- hL]at hlen;simp only[length_cons]at hlen;omega
 generalize l=L at *
 refine Qa ?_;refine Xtp (ps:=[(6,1)]) (by exact Qp) ?_
 (refine XG ?_)
 refine Qv (fun k:Nat=>k≤L.length∧nN e0.t (L.take k)=true) (fun k=>⟨[(0,.int .i64 seq),(1,.isl L.length (Xj L)),(6,.sl 1 0 0 (21 * k) (21 * k)),(17,.isl L.length (Xj L)),(18,.int .i64 L.length),(19,.int .i64 k)],[(0,.cells (Xi (Ut (L.take k))))],1⟩) (fun k=>L.length - k) WB.mixed hN
  ⟨0,⟨by omega,rfl⟩,[],by refine Qa ?_;rfl⟩ fun k ⟨hk,bl⟩=>?_
 refine Qa ?_;refine Qc ?_ ?_<;>intro h3
 ·have bg:k < L.length:=by omega
  have aK:=R4 L k bg;have ea:=Qtp L k bg;have fY:nN e0.t (L.take (k+1))=(Je L[k].t L[k].s L[k].a L[k].b&&L[k].t==e0.t):=by
   unfold nN at bl ⊢;rw[take_add_one,List.getElem?_eq_getElem bg,List.all_append,bl];simp
  have eE:(Je L[k].t L[k].s L[k].a L[k].b&&L[k].t==e0.t)=false->nN e0.t L=false:=fun hb=>by
   unfold nN;rw[List.all_eq_false];exact ⟨L[k],getElem_mem _,by rw[hb];simp⟩
  have lK:(Ut (L.take k)).length=21*k:=by rw[A8];simp;omega
  generalize L[k]=e at *
  obtain ⟨t,sb,a,b,f⟩:=e;simp only[Ev.enc]at aK;refine Qd (An @hl @aK) ?_
  ((first|apply Yy|apply Yh|apply Xo|apply Xg)<;>(first|exact (Xjn _ _ _ _ _ _)|(have aQ:=@aK;have bu:=@iK;refine XG ?_;clear aQ bu;first|exact rfl|exact True.intro|((try with_reducible and_intros);all_goals try first|refine zm ?_|exact CL))))
  refine Qc ?_ ?_<;>intro h4
  ·have hb:=eE (by
    simp only[rq]at h4;cases hg:Je t sb a b
    ·rfl
    ·rw[am hg]at h4;simpa using h4)
   refine Qa ?_;subst hL;simp only[pR];rw[aa fD,aa (by rw[hb];simp)]
  ·have aX:Je t sb a b=true:=by
    simp only[rq]at h4;by_cases hg:Je t sb a b=true
    ·exact hg
    ·rw[aa hg]at h4;simp at h4
   have ht:t=e0.t:=by
    simp only[rq]at h4;rw[am aX]at h4;simpa using h4
   have hr:=aX;simp[Je]at hr;generalize hB:Ut (L.take k)=B at *
   have Fs:B.length<=100000000-21:=by omega
   refine Qa ?_
   (have zC:=(Wt c.gl B t 8 aJ af);refine Jo (ip [0]) zC (An @Qk @lK) ?_;clear zC)
   (have zC:=(Wt c.gl (B++be t 8) (167772161+sb) 4 aJ (by simp[Qk];omega));refine Jo (ip [2]) zC (An @Qk @lK) ?_;clear zC)
   (have zC:=(Wt c.gl (B++be t 8++be (167772161+sb) 4) (3405803777+a) 4 aJ (by simp[Qk];omega));refine Jo (ip [3]) zC (An @Qk @lK) ?_;clear zC)
   (have zC:=(Wt c.gl (B++be t 8++be (167772161+sb) 4++be (3405803777+a) 4) (1024+b*8) 2 aJ (by simp[Qk];omega));refine Jo (ip [4]) zC (An @Qk @lK) ?_;clear zC)
   (have zC:=(Wt c.gl (B++be t 8++be (167772161+sb) 4++be (3405803777+a) 4++be (1024+b*8) 2) (1024+b*8+8-1) 2 aJ (by simp[Qk];omega));refine Jo (ip [5]) zC (An @Qk @lK) ?_;clear zC)
   have e1:1024+8*b=1024+b*8:=by omega
   have e2:1031+8*b=1024+b*8+8-1:=by omega
   cases f with
   | false =>
    refine Yc ?_;refine Qa ?_
    (have zC:=(Wt c.gl (B++be t 8++be (167772161+sb) 4++be (3405803777+a) 4++be (1024+b*8) 2++be (1024+b*8+8-1) 2) 1 1 aJ (by simp[Qk];omega));refine Jo (ip [6]) zC (An @Qk @lK) ?_;clear zC)
    refine ⟨k+1,⟨by omega,by rw[fY,aX,ht];simp⟩,⟨[(0,7)],?_⟩,by omega⟩;refine Qd @ea ?_;simp[wv,e1,e2]
   | true =>
    refine Yc ?_;refine Qa ?_
    (have zC:=(Wt c.gl (B++be t 8++be (167772161+sb) 4++be (3405803777+a) 4++be (1024+b*8) 2++be (1024+b*8+8-1) 2) 2 1 aJ (by simp[Qk];omega));refine Jo (ip [6]) zC (An @Qk @lK) ?_;clear zC)
    refine ⟨k+1,⟨by omega,by rw[fY,aX,ht];simp⟩,⟨[(0,7)],?_⟩,by omega⟩;refine Qd @ea ?_;simp[wv,e1,e2]
 ·have:k=L.length:=by omega
  subst this;rw[take_length]at bl ⊢;have hb:(Ut L).length<=10000000:=by rw[A8];omega
  have hm:=WK c.gl seq e0.t 300 (Ut L) hb;have e2:pR seq L=Ug seq e0.t 300 (Ut L):=by
   subst hL;simp only[pR];rw[aa fD,am bl]
  have Sd:=A8 L;rw[e2];clear e2;rw[Sd]at hm;have hf:Ji (Ug seq e0.t 300 (Ut L)):=by
   unfold Ug;split<;>exact .aR (by simp[Ji.str,Ji.int])
  unfold Ug at hm hf ⊢;refine Qd @iK ?_;split at hm
  ·rename_i hq;rw[am hq]at hf
   ((first|apply Wc|apply Jw)<;>(first|exact hm|(with_reducible exact hf)|(have aQ:=@iK;have bu:=@Sd;refine XG ?_;clear aQ bu;first|exact rfl|exact True.intro|((try with_reducible and_intros);all_goals try first|refine zm ?_|exact CL))))
   rw[am (by assumption)]
  ·rename_i hq;rw[aa hq]at hf
   ((first|apply Wc|apply Jw)<;>(first|exact hm|(with_reducible exact hf)|(have aQ:=@iK;have bu:=@Sd;refine XG ?_;clear aQ bu;first|exact rfl|exact True.intro|((try with_reducible and_intros);all_goals try first|refine zm ?_|exact CL))))
   rw[aa (by assumption)]
def GU (k:Nat):List UInt8:=be 300 2++be 6 2++(Xy.take k).flatMap fun f=>be f 2
def Xq9:∀ k,k<=12->(GU k).length=4+2*k:=by decide +kernel
def Xiq:∀ k,k<12->GU k++be (Xy.getD k 0) 2=GU (k+1):=by decide +kernel
def Xif:∀ k,k<12->0<=Xy.getD k 0/\Xy.getD k 0<=1000:=by decide +kernel
def Qvp:PS Tryz.prog gl 160 [.int .i64 seq] (Ug seq 0 2 (jA 6)):=by
 refine WE.ps (ap rfl) (Xf6 _ _ _ _ _) fun c hN hg=>?_
 conv in aG _ _=>cbv
 have hf:Xy.length=12:=rfl;refine Qa ?_
 (have zC:=(Yg c.gl 300 2);refine Qj zC @Qk ?_;clear zC)
 (have zC:=(Yg c.gl 6 2);refine Qj zC @Qk ?_;clear zC)
 refine Ke ?_
 refine Qv (fun k:Nat=>k≤12) (fun k=>⟨[(0,.int .i64 seq),(4,.str (GU k)),(10,.sl 1 0 0 12 12),(11,.int .i64 12),(12,.int .i64 k)],[(0,.cells (Ql Xy))],1⟩) (fun k=>12 - k) WE.mixed hN
  ⟨0,by omega,[],by (refine XG ?_;((try with_reducible and_intros);all_goals try first|refine zm ?_|exact CL))<;>rfl⟩ fun k hk=>?_
 refine Qa ?_;refine Qc ?_ ?_<;>intro h1
 ·have fo:k < 12:=by omega
  have hl:=Xq9 k hk;have hs:=Xiq k fo;obtain ⟨b0,b1⟩:=Xif k fo;refine Qd @hf ?_
  (have zC:=(Yg c.gl (Xy.getD k 0) 2 b0);refine Qj zC (An @Qk @hl) ?_;clear zC)
  refine ⟨k+1,by omega,⟨[],?_⟩,by omega⟩;exact Qi @hs
 ·have:k=12:=by omega
  subst this;have hm:=Qnw c.gl seq 0 2 (jA 6) (by rw[Og 6 af];omega) af af;have Se:GU 12=jA 6:=by decide +kernel
  unfold Ug at hm ⊢;refine Qd @Se ?_;split at hm
  ·refine Qj hm @Se ?_;rw[am (by assumption)]
  ·refine Qj hm @Se ?_;rw[aa (by assumption)]
def NS.s34 {S:NS}(h:S.tb.wf)(v:Nat):S.cells.set 34 (.int .i64 v)=({ S with told:=v }:NS).cells:=NS.dR h 4 _
def Xeq (h0:gl 0=.xp (Ql Xy) 0)(S:NS)(T:WT)(hS:NJ S)(hT:T.wf)(m9:S.told<=100000)(l:List Ev)(hl:l.length<=64)(ha:∀ e ∈ l,Je e.t e.s e.a e.b=true/\e.t=(l.headD ⟨0,0,0,0,false⟩).t) :
  GD Tryz.prog gl 95 [.ptr 67 0,.isl l.length (Xj l)] (Qn S T) 70 (List.range 70) (.str (nP S.told l)) (Qn (S.log l) T):=by
 refine Yaa.gq (ap rfl) (Ub hT) (fun b hb=>mem_range.1 hb) fun c bf hg=>?_
 conv in aG _ _=>cbv
 have aW:=fun n b hb=>Ko (S:=S) hT n b hb;have cq:=lr S T;have aY:=NS.aU hS.wf;have tq:=NS.tq hS.wf;have Ba:=Xdb c.gl (by rw[hg];exact h0) 0;unfold Ug at Ba;rw[am af]at Ba;refine Qa ?_;refine Qc ?_ ?_<;>intro h1
 ·obtain rfl:l=[]:=List.eq_nil_of_length_eq_zero af;refine Qa ?_;exact ⟨(),To.jM (ex:=[]) hT av (fun b hb=>mem_range.1 hb) (by simp[Qs,Qe,ah,look,aB,ay,nP])⟩
 cases l with
 | nil=>simp at h1
 | cons e l =>
  have hM:=Xiv c.gl S.told (e::l) af;have bl:nN e.t (e::l)=true:=by
   unfold nN;rw[List.all_eq_true];intro x hx;obtain ⟨g1,g2⟩:=ha x hx;have g2:x.t=e.t:=g2;rw[g1,g2];simp
  have kN:¬ 64<l.length+1:=by simp at hl;omega
  unfold pR at hM;dsimp only at hM;rw[aa kN,am bl]at hM;unfold Ug at hM;rw[am af]at hM;have kf:=NS.s34 hS.wf (S.told+(e::l).length);have dY:(S.told:Int)+((e::l).length:Nat)=((S.told+(e::l).length:Nat):Int):=by omega
  have lC:nP S.told (e::l)=(if S.told=0 then ki 0 0 2 (jA 6) else [])++ki S.told e.t 300 (Ut (e::l)):=rfl;rw[lC];have gH:(e::l).length=l.length+1:=rfl;have hB:(Ut (e::l)).length<=1400:=by rw[A8];omega
  have hE:=fun n=>Uc n (e::l);simp only[length_cons]at hM kf dY ⊢;clear gH;generalize Xj (e::l)=E at *
  generalize Ut (e::l)=B at *
  have Bb:(ki S.told e.t 300 B).length<=100000:=by
   simp[ki,Qk];omega
  generalize ki S.told e.t 300 B=MB at *
  have GV:(ki 0 0 2 (jA 6)).length<=100000:=by decide +kernel
  generalize ki 0 0 2 (jA 6)=TB at *
  have gj:∀ (t:List (Nat×AV)) (ex:List (Nat×Bk)) (n:Nat) (r:List UInt8),70<=n->To (List.range 70) ⟨[(0,.str r)],(67,.cells ({ S with told:=S.told+(l.length+1) }:NS).cells)::Qn S T,70⟩ ⟨[(0,.str r)],Qn (S.log (e::l)) T,70⟩:=fun t ex n r hn =>
   To.Sb id hT (fun b hb=>⟨rfl,mem_range.1 hb⟩) (fun b b' _ _ e=>e) (Xoo (S':=S.log (e::l)) (ex:=[(67,_)]) rfl (by simp[NS.log]) rfl hT) (by simp[Qs,Qe,look,aB])
  by_cases hz:S.told=0
  ·rw[am hz];refine Qd (An @cq (An @aY (An @tq @hE))) ?_;refine Qc ?_ ?_<;>intro h2
   ·refine Qa ?_;refine Qj Ba (An @cq (An @aY @tq)) ?_;refine Qd (An @cq (An @aY (An @tq @hE))) ?_;refine Qj hM (An @hE (An @cq (An @aY (An @tq (An @dY (An @kf (An @Bb @GV))))))) ?_;refine Qd (An @cq (An @aY (An @tq (An @dY (An @kf @hE))))) ?_;exact ⟨(),gj [] [] 70 _ af⟩
   ·exact absurd hz af
  ·rw[aa hz];refine Qd (An @cq (An @aY (An @tq @hE))) ?_;refine Qc ?_ ?_<;>intro h2
   ·exact absurd h2 af
   ·refine Qd (An @cq (An @aY (An @tq @hE))) ?_;refine Qj hM (An @hE (An @cq (An @aY (An @tq (An @dY (An @kf (An @Bb @GV))))))) ?_;refine Qd (An @cq (An @aY (An @tq (An @dY (An @kf @hE))))) ?_;exact ⟨(),gj [] [] 70 _ af⟩
section
variable {P:Program}{c:Cx}
def Sf {d:Option Nat}{f:FuncId}{xs:List TV}{args:List AV}{T:WT}{n:Nat}{r:AV}{t:List (Nat×AV)}{ex:List (Nat×Bk)}{r0:List bB}{K:St->Prop}(hq:GD P c.gl f args T.hb 67 (List.range 67) r T.hb)(hT:T.wf)(hn:67<=n)(hex:∀ q ∈ ex,67<=q.1/\q.1<n)
  (hc:Qr none (aD c.gl (⟨t,ex++T.hb,n⟩:St).fs xs)/\(aD c.gl (⟨t,ex++T.hb,n⟩:St).fs xs).map Qh=args/\ah 67 args) (hr:Qe 0 r) (h:XP P c r0 K (St.ca ⟨t,ex++T.hb,n+67⟩ d r)):Yo P c (.pd d (.call f) xs none) r0 K ⟨t,ex++T.hb,n⟩:=by
 have e:ex++T.hb=ex++Qq id T.hb:=by rw[Wd]
 rw[e]at hc h ⊢;refine OR (v:=false) hq (gx1 hT (fun b hb=>mem_range.1 hb) hn hex ⟨hc.1,?_,hc.2.2⟩) rfl (WT.iA hT) (by have:=rE (Nat.zero_le 67) (x:=.cells [r]) (by simpa [bX,ah] using hr);simpa [bX,ah] using this) (by rw[Xmf hT hr];exact h);rw[hc.2.1];rfl
end
def Yec (S:NS)(T:WT)(D:List Tm)(hS:NJ S)(hW:WI T S.now D):GD Tryz.prog gl 21 [.ptr 67 0] (Qn S T) 70 (List.range 70) (.int .i64 S.now) (Qn S T):=by
 have hT:=hW.wf;refine Yaj.gq (ap rfl) (Ub hT) (fun b hb=>mem_range.1 hb) fun c bf hg=>?_
 conv in aG _ _=>cbv
 have cq:=lr S T;have aY:=NS.aU hS.wf;have iI:=NS.iI hS.wf;have fe:=hW.gA c.gl;refine Qa ?_
 (refine Qc (fun h1=>?_) (fun h1=>?_)<;>try exact h1.elim)
 refine Qd (An @cq (An @aY @iI)) ?_;refine Sf (ex:=[(67,_),(68,_),(69,_)]) fe hT aJ av (by exact Qp) (by simp[Qe]) ?_;refine Qa ?_;exact ⟨(),To.jM (ex:=[]) hT av (fun b hb=>mem_range.1 hb) (by simp[Qs,Qe,ah,look,aB,ay])⟩
section
variable {P:Program}{c:Cx}
def LZ {d:Option Nat}{f:FuncId}{xs:List TV}{args:List AV}{T:WT}{n:Nat}{r:AV}{t:List (Nat×AV)}{ex:List (Nat×Bk)}{anc:List Nat}{fs:List bc}{r0:List bB}{K:St->Prop}(hq:GD P c.gl f args T.hb 67 (List.range 67) r T.hb)(hT:T.wf)(hn:67<=n)(hex:∀ q ∈ ex,67<=q.1/\q.1<n)
  (hc:Qr none (aD c.gl (⟨t,ex++T.hb,n⟩:St).fs xs)/\(aD c.gl (⟨t,ex++T.hb,n⟩:St).fs xs).map Qh=args/\ah 67 args) (hr:Qe 0 r) (h:XD P c anc r0 (⟨Xe xs,eU id 67 n,d.toList,eU id 67 n⟩::fs) K (St.ca ⟨t,ex++T.hb,n+67⟩ d r)):Yz P c anc (.pd d (.call f) xs none) r0 fs K ⟨t,ex++T.hb,n⟩:=by
 have e:ex++T.hb=ex++Qq id T.hb:=by rw[Wd]
 rw[e]at hc h ⊢;refine X0 (v:=false) hq (gx1 hT (fun b hb=>mem_range.1 hb) hn hex ⟨hc.1,?_,hc.2.2⟩) rfl (WT.iA hT) (by have:=rE (Nat.zero_le 67) (x:=.cells [r]) (by simpa [bX,ah] using hr);simpa [bX,ah] using this) (by rw[Xmf hT hr];exact h);rw[hc.2.1];rfl
end
def Qtq (S:NS)(T:WT)(D:List Tm)(hS:NB S)(hW:WI T S.now D)(m:Mp)(hm:Fx m)(free:Bool):GD Tryz.prog gl 90 [.ptr 67 0,.agg m.enc,.bool free] (Qn S T) 70 (List.range 70) (.isl 1 (Xj [S.ev m free])) (Qn S T):=by
 have hT:=hW.wf;refine Xof.gq (ap rfl) (Ub hT) (fun b hb=>mem_range.1 hb) fun c bf hg=>?_
 conv in aG _ _=>cbv
 have aW:=fun n b hb=>Ko (S:=S) hT n b hb;have cq:=lr S T;have aY:=NS.aU hS.wf;have iI:=NS.iI hS.wf;have fe:=hW.gA c.gl;have hB:=KW c.gl m.port hm.2.2.2.2;unfold lV at hB;obtain ⟨mp,ms,mi,ma,mt⟩:=m;unfold NS.ev Mp.enc;dsimp only at hB ⊢;refine Qd @aW ?_;refine Qj hB (An @aW (An @cq (An @aY @iI))) ?_;refine LZ (ex:=[(70,_),(67,_),(68,_),(69,_)]) fe hT aJ av (by exact Qp) (by simp[Qe]) ?_;refine Qa ?_;have qR:=fun n b hb=>WT.qI hT n (b:=b) hb;refine Yp (An @aW @qR) ?_;refine Qd (An @aW @qR) ?_;refine ⟨(),(To.gM (b:=138) (i:=0) rfl rfl).trans (To.jM (S:=S) (T:=T) (ex:=[(138,.dead),(138,_),(70,_)]) hT av (fun b hb=>mem_range.1 hb) ?_)⟩;simp[Qs,Qe,ah,look,aB,ay,Xj,Ev.enc]
def Yhp {S:NS}{t:Tm}(h:t ∈ S.aZ):∃ q ∈ S.fl,t.id=q.1/\t.due=q.2.due.toNat:=by
 obtain ⟨q,hq,rfl⟩:=mem_map.1 h;exact ⟨q,hq,rfl,rfl⟩
def Xni {S:NS}(h:NB S)(hl:S.fl.length<48){D:List Tm}(hD:D.Perm S.aZ)(f:Fl) :
  A5 S.now D (S.bH+1) (S.now+Yw f.map.ae f.st)=(0,D++[⟨S.bH+1,(S.now+Yw f.map.ae f.st).toNat⟩])/\List.Perm (D++[(⟨S.bH+1,(S.now+Yw f.map.ae f.st).toNat⟩:Tm)]) (S.begin f).aZ:=by
 have hb:=GL f.map.ae f.st;have hn:=h.now;have hlen:D.length<400:=by rw[hD.length_eq];simp[NS.aZ];omega
 have cf:∀ t ∈ D,t.id≠S.bH+1:=fun t ht e=>by
  obtain ⟨q,hq,e1,_⟩:=Yhp (hD.mem_iff.1 ht);have:=(h.ids q hq).2;omega
 refine ⟨?_,?_⟩
 ·unfold A5;rw[aa af,aa af];have e:Uv D (S.bH+1) (max (S.now+Yw f.map.ae f.st).toNat S.now)=D++[⟨S.bH+1,(S.now+Yw f.map.ae f.st).toNat⟩]:=by
   unfold Uv;rw[LF cf,show max (S.now+Yw f.map.ae f.st).toNat S.now=(S.now+Yw f.map.ae f.st).toNat by omega]
  rw[e]
 ·have e:(S.begin f).aZ=S.aZ++[⟨S.bH+1,(S.now+Yw f.map.ae f.st).toNat⟩]:=by
   simp[NS.aZ,NS.begin]
  rw[e];exact hD.append_right _
def nr (σ:Nat->Nat)(k b:Nat):Nat:=if b<67 then σ b else if b=69 then k else b
def Wg {k b:Nat}(h:b<67):nr σ k b=σ b:=am h
def NS.Dl (S:NS)(k w:Nat):List AV:=[.mp 68,.sl 1 k 0 S.fl.length S.fl.length,.int .i64 S.bH,.ptr w 0,.int .i64 S.told,.int .i64 S.ref,.int .i64 S.bm,.bool S.loose]
def NS.kC (S:NS)(ρ:Nat->Nat):ay ρ S.cells=S.tb.enc++[.mp (ρ 68),.sl 1 (ρ 69) 0 S.fl.length S.fl.length,.int .i64 S.bH,.ptr (ρ 0) 0,.int .i64 S.told,.int .i64 S.ref,.int .i64 S.bm,.bool S.loose]:=by
 unfold NS.cells NS.tl;rw[B6,Tb.dx];simp[ay,aB]
def Xe6 (ρ:Nat->Nat)(l:List (Int×Fl)):Qw ρ (.az (gJ l) false)=.az (gJ l) false:=by
 simp only[Qw];congr 1;refine (map_congr_left fun q hq=>?_).trans (map_id _);obtain ⟨h1,h2⟩:=Xp7 0 l q hq;show (aB ρ q.1,aB ρ q.2)=q;rw[Ue h1,Ue h2]
def Qtf (ρ:Nat->Nat)(l:List Int):Qw ρ (.cells (Ql l))=.cells (Ql l):=by
 simp only[Qw,Qu]
def To.Bc {p:List Nat}{t t':List (Nat×AV)}{ex:List (Nat×Bk)}{S:NS}{T:WT}{σ:Nat->Nat}{n k:Nat}(hT:T.wf)(hp:∀ b ∈ p,b=67\/b=68)(ct:∀ b b',b<67->b'<67->σ b=σ b'->b=b')(hex:∀ q ∈ ex,∀ b,b<67->σ b≠q.1)(hk:k≠67/\k≠68)(aL:∀ b,b<67->σ b≠67/\σ b≠68/\σ b≠k)
  (pT:Qb (ex++Qq σ T.hb) n 67=.cells (S.tb.enc++S.Dl k (σ 0))) (rK:Qb (ex++Qq σ T.hb) n 68=.az (gJ S.fl) false) (vJ:Qb (ex++Qq σ T.hb) n k=.cells (Ql S.keys)) (ht:Qs (nr σ k) 70 t t'):To p ⟨t,ex++Qq σ T.hb,n⟩ ⟨t',Qn S T,70⟩:=by
 have Bd:nr σ k 67=67:=rfl;have wy:nr σ k 68=68:=rfl;have tw:nr σ k 69=k:=rfl;refine To.Sb (nr σ k) hT (fun b hb=>?_) (fun b b' hb bL e=>?_) (fun b hb=>?_) ht
 ·rcases hp b hb with rfl|rfl<;>exact ⟨rfl,by decide⟩
 ·rcases (by omega:b < 67∨b=67∨b=68∨b=69) with h|rfl|rfl|rfl<;>rcases (by omega:b' < 67∨b'=67∨b'=68∨b'=69) with h'|rfl|rfl|rfl
  ·rw[Wg h,Wg h']at e;exact ct _ _ h h' e
  ·rw[Wg h]at e;exact absurd e (aL _ h).1
  ·rw[Wg h]at e;exact absurd e (aL _ h).2.1
  ·rw[Wg h]at e;exact absurd e (aL _ h).2.2
  ·rw[Wg h']at e;exact absurd e.symm (aL _ h').1
  ·rfl
  ·cases e
  ·exact absurd e.symm hk.1
  ·rw[Wg h']at e;exact absurd e.symm (aL _ h').2.1
  ·cases e
  ·rfl
  ·exact absurd e.symm hk.2
  ·rw[Wg h']at e;exact absurd e.symm (aL _ h').2.2
  ·exact absurd e hk.1
  ·exact absurd e hk.2
  ·rfl
 ·rcases (by omega:b < 67∨b=67∨b=68∨b=69) with h|rfl|rfl|rfl
  ·rw[Wg h,Xdt hT ct hex h];have e:Qb (Qn S T) 70 b=Qb T.hb 67 b:=by
    unfold Qn;rw[Qf,aa af,Qf,aa af,Qf,aa af];exact ((WT.iA hT).live h 70).1
   rw[e];exact yb (n:=67) (fun b hb=>(Wg hb).symm) (R0 hT h).2
  ·rw[Bd,pT,lr];show _=Bk.cells (ay (nr σ k) S.cells);rw[NS.kC,wy,tw,Wg (by decide:0<67)];rfl
  ·rw[wy,rK,yi,Xe6]
  ·rw[tw,vJ,yj,Qtf]
def NS.Sg {S:NS}(h:S.tb.wf)(v:Int):S.cells.set 32 (.int .i64 v)=({ S with bH:=v }:NS).cells:=NS.dR h 2 _
def Qsz (S:NS)(T:WT)(D:List Tm)(hS:NB S)(nK:S.bH<=1000000)(hW:WI T S.now D)(hD:D.Perm S.aZ)(hl:S.fl.length<48)(m:Mp)(r rp st:Int):∃ T' D',WI T' S.now D'/\D'.Perm (S.begin ⟨m,r,rp,st,0,0⟩).aZ /\
  GD Tryz.prog gl 91 [.ptr 67 0,.agg (Fl.enc ⟨m,r,rp,st,0,0⟩)] (Qn S T) 70 [67] (.aR []) (Qn (S.begin ⟨m,r,rp,st,0,0⟩) T'):=by
 have hT:=hW.wf;obtain ⟨ha,kD⟩:=Xni hS hl hD ⟨m,r,rp,st,0,0⟩;obtain ⟨T',iW,iB⟩:=hW.tm gl (S.bH+1) (S.now+Yw m.ae st);dsimp only at ha kD;rw[ha]at iW iB;refine ⟨T',_,iW,kD,?_⟩;dsimp only at iB;have fB:=iW.wf;clear iW kD ha;refine Xsf.gq (ap rfl) (Ub hT) av fun c bf hg=>?_;subst hg
 conv in aG _ _=>cbv
 have aW:=fun n b hb=>Ko (S:=S) hT n b hb;have cq:=lr S T;have tu:=yi S T;have yk:=yj S T;have aY:=NS.aU hS.wf;have LW:=NS.LW hS.wf;have Sg:=NS.Sg hS.wf (S.bH+1);have fv:=NS.aU (S:={ S with bH:=S.bH+1 }) hS.wf;have d30:=NS.fF (S:={ S with bH:=S.bH+1 }) hS.wf;have d31:=NS.ke (S:={ S with bH:=S.bH+1 }) hS.wf;have d32:=NS.LW (S:={ S with bH:=S.bH+1 }) hS.wf;have d33:=NS.iI (S:={ S with bH:=S.bH+1 }) hS.wf;dsimp only at d31 d32;have s31:∀ v,({ S with bH:=S.bH+1 }:NS).cells.set 31 v=S.tb.enc++({ S with bH:=S.bH+1 }:NS).tl.set 1 v:=fun v=>NS.dR (S:={ S with bH:=S.bH+1 }) hS.wf 1 v;generalize ({ S with bH:=S.bH+1 }:NS).cells=C1 at *
 have fe:=hW.gA c.gl;have tz:=Xdz c.gl m.ae st;have L0:=GL m.ae st;have hn:=hS.now;have xBa:=hS.lq;obtain ⟨mp,ms,mi,ma,mt⟩:=m;unfold Fl.enc Zj;dsimp only at tz L0 iB ⊢;obtain ⟨L,hL⟩:∃ L,L=Yw mp st:=⟨_,rfl⟩
 rw[<- hL]at tz L0 iB;refine Qd (An @aW (An @cq (An @aY (An @LW @Sg)))) ?_;refine LZ (ex:=[(67,_),(70,_),(67,_),(68,_),(69,_)]) fe hT aJ av (by exact Qi (An @fv @d33)) (by simp[Qe]) ?_;refine Qa ?_;have qR:=fun n b hb=>WT.qI hT n (b:=b) hb;have eb:=A9 S.fl;have eM:=rG (S.bH+1);have m7:=Xza (l:=S.fl) (x:=S.bH+1) (fun q hq e=>by have:=(hS.ids q hq).2;omega) ⟨⟨mp,ms,mi,ma,mt⟩,r,rp,st,0,S.now+L⟩;unfold Fl.enc Zj at m7;dsimp only at m7;have fO:=uK S
 ((first|apply Yy|apply Yh|apply Xo|apply Xg)<;>(first|exact tz|(refine XG ?_;first|exact rfl|exact True.intro|((try with_reducible and_intros);all_goals try first|refine zm ?_|exact CL))))
 exact Qi (An @d33 (An @d32 (An @d30 @fv)))
 ((first|refine Oz nQ ?_|refine OA nQ ?_);(have aQ:=@eb;have bu:=@eM;have bO:=@m7;have cy:=@d33;have dc:=@d32;have eT:=@d30;have gF:=@fv;refine XG ?_;clear aQ bu bO cy dc eT gF;((try with_reducible and_intros);all_goals try first|refine zm ?_|exact CL)))
 refine Qd (An @d31 (An @d32 @fv)) ?_;have f33:(C1.set 31 (AV.sl 1 139 0 (S.fl.length+1) (S.fl.length+1))).getD 33 AV.any=.ptr 0 0:=by rw[zq (by rw[fv];decide),aa aJ];exact d33
 have f32:(C1.set 31 (AV.sl 1 139 0 (S.fl.length+1) (S.fl.length+1))).getD 32 AV.any=.int .i64 (S.bH+1):=by rw[zq (by rw[fv];decide),aa aJ];exact d32
 refine Yp (An @qR @fO) ?_;refine Yp (An @qR (An @fO (An @fv (An @f33 @f32)))) ?_;have hC2:=s31 (.sl 1 139 0 (S.fl.length+1) (S.fl.length+1));refine LV (v:=false) (ex:=[(67,_),(139,_),(69,_),(138,_),(68,_),(70,_),(67,_),(70,_),(67,_),(68,_),(69,_)]) iB (WT.iA hT) (WT.iA fB) (by simp[Qe]) aJ aJ av rfl ?_ ?_
 ·exact Qi (An @Yl (An @f33 @f32))
 rw[R2 (by simp[Qe])];refine Qa ?_;refine ⟨(),To.Bc (p:=[67]) (n:=207) (σ:=im 140) (ex:=[(67,_),(139,_),(69,_),(138,_),(68,_),(70,_),(67,_),(70,_),(67,_),(68,_),(69,_)]) (k:=139) fB av (fun b b' h h' e=>R1 aJ h h' e) ?_ aJ ?_ ?_ ?_ ?_ (by simp[Qs,Qe,ah,look,aB,ay])⟩
 ·intro q hq b hb e;have h1:im 140 b < 2∨142≤im 140 b:=by unfold im;split<;>omega
  simp at hq;rcases hq with rfl|rfl|rfl|rfl|rfl|rfl|rfl|rfl|rfl|rfl|rfl<;>dsimp only at e<;>omega
 ·intro b hb;have h1:im 140 b < 2∨142≤im 140 b:=by unfold im;split<;>omega
  omega
 ·show Bk.cells _=_;rw[hC2];simp[NS.begin,NS.Dl,NS.tl,Yiu]
 ·show Bk.az _ _=_;simp only[NS.begin,<- hL]
 ·show Bk.cells _=_;simp[NS.begin,NS.keys]
def GX {l:List (Int×Fl)}(hd:l.Pairwise fun p q=>p.1≠q.1){q r:Int×Fl}(hq:q ∈ l)(hr:r ∈ l)(e:q.1=r.1):q=r:=by
 have hp:=pairwise_iff_getElem.1 hd;obtain ⟨i,hi,rfl⟩:=getElem_of_mem hq;obtain ⟨j,hj,rfl⟩:=getElem_of_mem hr;rcases Nat.lt_trichotomy i j with h1|h1|h1
 ·exact (hp i j hi hj h1 e).elim
 ·subst h1;rfl
 ·exact (hp j i hj hi h1 e.symm).elim
def Xej {S:NS}(hd:S.fl.Pairwise fun p q=>p.1≠q.1){q:Int×Fl}(hq:q ∈ S.fl)(p:Pk)(bn:Bool):(S.goes q.1 p bn).fl=S.fl.map fun r=>if r.1=q.1 then (r.1,q.2.next p bn S.now) else r:=by
 unfold NS.goes;refine map_congr_left fun r hr=>?_;split
 ·rename_i e;rw[GX hd hr hq e]
 ·rfl
def Xa1 {S:NS}(hd:S.fl.Pairwise fun p q=>p.1≠q.1){q:Int×Fl}(hq:q ∈ S.fl)(p:Pk)(bn:Bool):∃ A B:List Tm,S.aZ=A++⟨q.1,q.2.due.toNat⟩::B/\(S.goes q.1 p bn).aZ=A++⟨q.1,(q.2.next p bn S.now).due.toNat⟩::B/\∀ t ∈ A++B,t.id≠q.1:=by
 obtain ⟨i,hi,rfl⟩:=getElem_of_mem hq;have hs:S.fl=S.fl.take i++S.fl[i]::S.fl.drop (i+1):=by rw[<- List.drop_eq_getElem_cons hi,List.take_append_drop]
 have iG:=pairwise_iff_getElem.1 hd;have hA:∀ r ∈ S.fl.take i,r.1≠S.fl[i].1:=fun r hr=>by
  obtain ⟨j,hj,rfl⟩:=getElem_of_mem hr;rw[List.length_take]at hj;rw[List.getElem_take];exact iG j i af hi af
 have hB:∀ r ∈ S.fl.drop (i+1),r.1≠S.fl[i].1:=fun r hr=>by
  obtain ⟨j,hj,rfl⟩:=getElem_of_mem hr;rw[List.length_drop]at hj;rw[List.getElem_drop];exact (iG i (i+1+j) hi af af).symm
 have hid:∀ l:List (Int×Fl),(∀ r ∈ l,r.1≠S.fl[i].1)->(l.map fun r=>if r.1=S.fl[i].1 then (r.1,S.fl[i].2.next p bn S.now) else r)=l:=fun l hl=>(map_congr_left fun r hr=>by rw[aa (hl r hr)];rfl).trans (map_id l);refine ⟨(S.fl.take i).map fun q=>⟨q.1,q.2.due.toNat⟩,(S.fl.drop (i+1)).map fun q=>⟨q.1,q.2.due.toNat⟩,?_,?_,?_⟩
 ·unfold NS.aZ
  conv=>lhs;rw[hs]
  rw[map_append,map_cons]
 ·unfold NS.aZ;rw[Xej hd (getElem_mem hi)];have:(S.fl.map fun r=>if r.1=S.fl[i].1 then (r.1,S.fl[i].2.next p bn S.now) else r)=S.fl.take i++(S.fl[i].1,S.fl[i].2.next p bn S.now)::S.fl.drop (i+1):=by
   generalize hx:S.fl[i]=x at *
   conv=>lhs;rw[hs]
   rw[map_append,map_cons,hid _ hA,hid _ hB,am rfl]
  rw[this,map_append,map_cons]
 ·intro t ht;rcases mem_append.1 ht with ht|ht
  ·obtain ⟨r,hr,rfl⟩:=mem_map.1 ht;exact hA r hr
  ·obtain ⟨r,hr,rfl⟩:=mem_map.1 ht;exact hB r hr
def Xx7 {S:NS}(h:NJ S){D:List Tm}(hD:D.Perm S.aZ){q:Int×Fl}(hq:q ∈ S.fl)(p:Pk)(bn:Bool)(hd:(S.now:Int)+4<=(q.2.next p bn S.now).due/\(q.2.next p bn S.now).due<=S.now+60) :
  ∃ D',A5 S.now D q.1 (q.2.next p bn S.now).due=(0,D')/\D'.Perm (S.goes q.1 p bn).aZ:=by
 obtain ⟨A,B,e1,e2,e3⟩:=Xa1 h.c4 hq p bn;have hn:=h.now;have bQ:(⟨q.1,q.2.due.toNat⟩:Tm) ∈ D:=hD.mem_iff.2 (by rw[e1];simp);have Sh:ky D q.1=true:=any_eq_true.2 ⟨_,bQ,by simp⟩;refine ⟨Uv D q.1 (q.2.next p bn S.now).due.toNat,?_,?_⟩
 ·unfold A5;rw[aa af,aa (by rw[Sh];simp),show max (q.2.next p bn S.now).due.toNat S.now=(q.2.next p bn S.now).due.toNat by omega]
 ·unfold Uv;rw[e2];refine (List.perm_append_singleton _ _).trans ?_;refine List.Perm.trans ?_ List.perm_middle.symm;refine List.Perm.cons _ ?_;have h1:(Xz q.1 D).Perm (Xz q.1 S.aZ):=hD.filter _;refine h1.trans ?_;rw[e1];unfold Xz;rw[List.filter_append,List.filter_cons,aa av,<- List.filter_append,List.filter_eq_self.2 fun t ht=>by simpa using e3 t ht]
def Xra {S:NS}(h:NJ S){q:Int×Fl}(hq:q ∈ S.fl)(p:Pk)(bn:Bool)(hd:(q.2.next p bn S.now).due=q.2.due):(S.goes q.1 p bn).aZ=S.aZ:=by
 obtain ⟨A,B,e1,e2,_⟩:=Xa1 h.c4 hq p bn;rw[e1,e2,hd]
def To.ed {p:List Nat}{t t':List (Nat×AV)}{ex:List (Nat×Bk)}{S:NS}{T:WT}{n k:Nat}(hT:T.wf)(hp:∀ b ∈ p,b=67\/b=68)(hex:∀ q ∈ ex,67<=q.1)(hk:k≠67/\k≠68)(hk2:67<=k)
  (pT:Qb (ex++T.hb) n 67=.cells (S.tb.enc++S.Dl k 0)) (rK:Qb (ex++T.hb) n 68=.az (gJ S.fl) false) (vJ:Qb (ex++T.hb) n k=.cells (Ql S.keys)) (ht:Qs (nr id k) 70 t t'):To p ⟨t,ex++T.hb,n⟩ ⟨t',Qn S T,70⟩:=by
 have:=To.Bc (p:=p) (t:=t) (t':=t') (ex:=ex) (S:=S) (σ:=id) (n:=n) (k:=k) hT hp (fun b b' _ _ e=>e) (fun q hq b hb e=>by have:=hex q hq;have e:b=q.1:=e;omega) hk (fun b hb=>by show b≠67/\b≠68/\b≠k;omega);rw[Wd]at this;exact this pT rK vJ ht
def Xta {S:NS}(hd:S.fl.Pairwise fun p q=>p.1≠q.1){q:Int×Fl}(hq:q ∈ S.fl)(p:Pk)(bn:Bool):Jy (gJ S.fl) (.int .i64 q.1) (.agg (q.2.next p bn S.now).enc)=gJ (S.goes q.1 p bn).fl:=by
 rw[Xej hd hq];obtain ⟨i,hi,rfl⟩:=getElem_of_mem hq;exact Ycp hd hi _
def L3 {l:List (Int×Fl)}(hd:l.Pairwise fun p q=>p.1≠q.1){q:Int×Fl}(hq:q ∈ l)(z:AV):Kk (gJ l) (.int .i64 q.1) z=.agg q.2.enc:=by
 obtain ⟨i,hi,rfl⟩:=getElem_of_mem hq;exact Sa hd hi z
def Sj (S:NS)(k:Int)(p:Pk)(bn:Bool):(S.goes k p bn).keys=S.keys:=by
 unfold NS.keys NS.goes;rw[List.map_map];exact map_congr_left fun q _=>by dsimp only[Function.comp];split<;>rfl
def Xxs (S:NS)(k:Int)(p:Pk)(bn:Bool):(S.goes k p bn).fl.length=S.fl.length:=by unfold NS.goes;exact List.length_map ..
def Qxj (S:NS)(T:WT)(D:List Tm)(hS:NI S)(hW:WI T S.now D)(hD:D.Perm S.aZ)(q:Int×Fl)(hq:q ∈ S.fl)(p:Pk)(bn:Bool):∃ T' D',WI T' S.now D'/\D'.Perm (S.goes q.1 p bn).aZ /\
  GD Tryz.prog gl 93 [.ptr 67 0,.int .i64 q.1,.agg p.enc,.bool bn] (Qn S T) 70 [67] (.aR []) (Qn (S.goes q.1 p bn) T'):=by
 have hT:=hW.wf;have cMa:=hS.now;have iV:=Qvt q.2.map.ae q.2.st q.2.side q.2.due p.flags bn (now:=S.now) af af;have fc:=L3 hS.c4 hq (.agg Fl.zero);have m7:=Xta hS.c4 hq p bn;have lB:=Sj S q.1 p bn;have jS:=Xxs S q.1 p bn;have htb:(S.goes q.1 p bn).tb=S.tb:=rfl;have eM:=rG q.1;have eb:=A9 S.fl;have fO:=uK S;by_cases cX:(q.2.next p bn S.now).due=q.2.due
 ·refine ⟨T,D,hW,by rw[Xra hS.toNJ hq p bn cX];exact hD,?_⟩;refine Qwm.gq (ap rfl) (Ub hT) av fun c bf hg=>?_;subst hg
  conv in aG _ _=>cbv
  have aW:=fun n b hb=>Ko (S:=S) hT n b hb;have cq:=lr S T;have tu:=yi S T;have yk:=yj S T;have aY:=NS.aU hS.wf;have fF:=NS.fF hS.wf;have iI:=NS.iI hS.wf;have qR:=fun n b hb=>WT.qI hT n (b:=b) hb;have fe:=hW.gA c.gl;obtain ⟨k,f⟩:=q;obtain ⟨⟨mp,ms,mi,ma,mt⟩,r,rp,st,sd,du⟩:=f;obtain ⟨p1,p2,p3,p4,p5,p6,p7,p8,p9,dh,di,pb⟩:=p;have hN:=Xf7 c.gl mp ms mi ma mt r rp st sd du p1 p2 p3 p4 p5 p6 p7 p8 p9 dh di pb bn S.now;unfold Fl.next at m7 cX;unfold Fl.enc Zj at fc m7;unfold Zj at hN;unfold Pk.enc;dsimp only at fc m7 hN eM cX lB jS ⊢;generalize Ur mp st sd du p8 bn S.now=x at *
  obtain ⟨x1,x2,x3⟩:=x;dsimp only at m7 hN cX;subst cX;refine Qd (An @aW (An @cq (An @aY @fF))) ?_;refine Ul nQ (An @tu (An @eb (An @eM (An @fc (An @aW (An @cq (An @aY @iI))))))) ?_;refine LZ (ex:=[(70,_),(67,_),(68,_),(69,_)]) fe hT aJ av (by exact Qi (An @aY @iI)) (by simp[Qe]) ?_;refine Qa ?_;refine Qj hN @qR ?_;refine Qd (An @aY (An @fF @qR)) ?_;refine Ul nQ (An @eb (An @eM (An @fc (An @aY (An @fF @qR))))) ?_;refine Yc ?_;refine Qd (An @aY @fF) ?_;refine xq nQ (An @eb (An @eM (An @m7 (An @aY @fF)))) ?_;refine ⟨(),To.ed (ex:=[(68,_),(138,_),(138,_),(70,_),(67,_),(68,_),(69,_)]) (k:=69) hT av av aJ aJ ?_ rfl ?_ (by simp[Qs,Qe,ah,look,aB,ay])⟩
  ·show Bk.cells _=_;unfold NS.cells NS.tl NS.Dl;rw[jS];rfl
  ·show Bk.cells _=_;rw[lB]
 obtain ⟨eO,hb2⟩:(S.now:Int)+4<=(q.2.next p bn S.now).due/\(q.2.next p bn S.now).due<=S.now+60:=by
  rcases iV with h|⟨d,h1,h2,h3⟩
  ·exact absurd h cX
  ·have:(q.2.next p bn S.now).due=S.now+d:=h3;omega
 obtain ⟨D',yl,kD⟩:=Xx7 hS.toNJ hD hq p bn ⟨eO,hb2⟩;obtain ⟨T',iW,iB⟩:=hW.tm gl q.1 (q.2.next p bn S.now).due;rw[yl]at iW iB;refine ⟨T',D',iW,kD,?_⟩;have fB:=iW.wf;clear kD yl iW;refine Qwm.gq (ap rfl) (Ub hT) av fun c bf hg=>?_;subst hg
 conv in aG _ _=>cbv
 have aW:=fun n b hb=>Ko (S:=S) hT n b hb;have cq:=lr S T;have tu:=yi S T;have yk:=yj S T;have aY:=NS.aU hS.wf;have fF:=NS.fF hS.wf;have iI:=NS.iI hS.wf;have qR:=fun n b hb=>WT.qI hT n (b:=b) hb;have fe:=hW.gA c.gl;obtain ⟨k,f⟩:=q;obtain ⟨⟨mp,ms,mi,ma,mt⟩,r,rp,st,sd,du⟩:=f;obtain ⟨p1,p2,p3,p4,p5,p6,p7,p8,p9,dh,di,pb⟩:=p;have hN:=Xf7 c.gl mp ms mi ma mt r rp st sd du p1 p2 p3 p4 p5 p6 p7 p8 p9 dh di pb bn S.now;unfold Fl.next at m7 cX iB;unfold Fl.enc Zj at fc m7;unfold Zj at hN;unfold Pk.enc;clear eO hb2 iV;dsimp only at fc m7 hN eM cX lB jS iB ⊢;generalize Ur mp st sd du p8 bn S.now=x at *
 obtain ⟨x1,x2,x3⟩:=x;dsimp only at m7 hN cX;refine Qd (An @aW (An @cq (An @aY @fF))) ?_;refine Ul nQ (An @tu (An @eb (An @eM (An @fc (An @aW (An @cq (An @aY @iI))))))) ?_;refine LZ (ex:=[(70,_),(67,_),(68,_),(69,_)]) fe hT aJ av (by exact Qi (An @aY @iI)) (by simp[Qe]) ?_;refine Qa ?_;refine Qj hN @qR ?_;refine Qd (An @aY (An @fF @qR)) ?_;refine Ul nQ (An @eb (An @eM (An @fc (An @aY (An @fF @qR))))) ?_;refine Qc ?_ ?_<;>intro h1;rotate_left
 ·exact absurd h1 (by simpa using cX)
 refine Qd (An @aY @iI) ?_;refine LV (v:=false) (ex:=[(138,_),(138,_),(70,_),(67,_),(68,_),(69,_)]) iB (WT.iA hT) (WT.iA fB) (by simp[Qe]) aJ aJ av rfl ?_ ?_
 ·exact Qi (An @Yl (An @aY @iI))
 rw[R2 (by simp[Qe])];refine Qd (An @aY @fF) ?_;refine xq nQ (An @eb (An @eM (An @m7 (An @aY @fF)))) ?_;refine ⟨(),To.Bc (p:=[67]) (n:=206) (σ:=im 139) (ex:=[(68,_),(138,_),(138,_),(70,_),(67,_),(68,_),(69,_)]) (k:=69) fB av (fun b b' h h' e=>R1 aJ h h' e) ?_ aJ ?_ ?_ rfl ?_ (by simp[Qs,Qe,ah,look,aB,ay])⟩
 ·intro q hq b hb e;have h1:im 139 b < 2∨141≤im 139 b:=by unfold im;split<;>omega
  simp at hq;rcases hq with rfl|rfl|rfl|rfl|rfl|rfl|rfl<;>dsimp only at e<;>omega
 ·intro b hb;have h1:im 139 b < 2∨141≤im 139 b:=by unfold im;split<;>omega
  omega
 ·show Bk.cells _=_;unfold NS.cells NS.tl NS.Dl;rw[jS];rfl
 ·show Bk.cells _=_;rw[lB]
section
variable {P:Program}{c:Cx}
def Xwm {anc:List Nat}{fs:List bc}{r0:List bB}{K:St->Prop}{s:St}{d:Nat}{t:TypeId}{ok:Bool}{xs:List TV}{gd:Option (Nat×Bool)}{wide:Bool}{ks:List SK}{z:AV}(hT:cu P t wide ks z)(hb:gB s.fs gd=some true)(aS:gg s.fs gd)
  (h:Qr none (aD c.gl s.fs xs)/\qj s.fs wide ks ((aD c.gl s.fs xs).map Qh)/\XD P c anc r0 (⟨jQ gd++Xe xs,[eK ((aD c.gl s.fs xs).map Qh)],[d],[]⟩::fs) K (s.put d (zV s.fs z ok ((aD c.gl s.fs xs).map Qh)))) :
  Yz P c anc (.pd (some d) (.wR t ok) xs gd) r0 fs K s:=⟨_,_,IW hb aS (JA hT h.1 h.2.1),h.2.2⟩
end
def wz (b:Int->Bool):List Int->Nat->Int
 | [],_=>-1
 | x::l,k=>if b x=true then k else wz b l (k+1)
def Xea {b:Int->Bool}:∀ (l:List Int) (k:Nat),decide (0<=wz b l k)=l.any b
 | [],k=>by simp[wz]
 | x::l,k=>by
  unfold wz;rw[List.any_cons];split
  ·rename_i h;rw[h];simp
  ·rename_i h;rw[Xea l (k+1)];simp[h]
section
variable {h:List (Nat×Bk)}{m kb:Nat}{l:List Int}{f:FuncId}{caps:List AV}{b:Int->Bool}
def Yce (gl:Nat->AV)(H:HL h m)(hl:l.length<=1000000)(ym:kb<m)(hk:∀ n,Qb h n kb=.cells (Ql l))(pU:ah m caps)
  (hf:∀ x ∈ l,GD Tryz.prog gl f (.int .i64 x::caps) h m (List.range m) (.bool (b x)) h) :
  GD Tryz.prog gl 136 [.sl 1 kb 0 l.length l.length,.cl f caps] h m (List.range m) (.int .i64 (wz b l 0)) h:=by
 refine LX.gq (ap rfl) H.lives (fun b hb=>mem_range.1 hb) fun c bf hg=>?_;subst hg
 conv in aG _ _=>cbv
 have dH:=Xp l;refine Qa ?_
 refine Yn (fun k:Nat=>k≤l.length∧wz b (l.drop k) k=wz b l 0) (fun k=>⟨[(0,.sl 1 kb 0 l.length l.length),(1,.cl f caps),(6,.sl 1 kb 0 l.length l.length),(7,.int .i64 l.length),(8,.int .i64 k)],h,m⟩) (fun k=>l.length - k) LX.mixed (List.range m) bf
  ⟨0,⟨by omega,rfl⟩,To.fK (by exact Qp) fun b=>rfl⟩ fun k hk2=>?_
 obtain ⟨fO,cU⟩:=hk2;have jv:∀ b ∈ List.range m,b<m:=fun b hb=>mem_range.1 hb;refine Qa ?_;refine Qc ?_ ?_<;>intro h1
 ·have bg:k < l.length:=by omega
  have lB:=Dh l k bg;have iy:l.drop k=l[k]::l.drop (k+1):=List.drop_eq_getElem_cons bg;rw[iy]at cU;rw[wz]at cU;have hc:=hf l[k] (getElem_mem bg);generalize l[k]=t at *
  refine Qd (An @dH (An @lB @hk)) ?_;refine tn (v:=true) (ex:=[]) hc H H (by simp[Qe]) (Nat.le_refl m) av rfl ?_ ?_
  ·refine Qa ?_;exact rfl
  refine Qa ?_;refine Qc ?_ ?_<;>intro h2
  ·rw[am h2]at cU;refine Qa ?_;refine ⟨(),?_⟩;rw[<- cU];exact To.drop (ex:=[]) H av jv (by simp[Qs,Qe,look,aB])
  ·rw[aa (by simpa using h2)]at cU;refine Qa ?_;refine ⟨k+1,⟨by omega,cU⟩,To.drop (ex:=[]) H av jv ?_,by omega⟩;simp[Qs,Qe,ah,look,aB,pU,ym];exact (ql caps).symm
 ·have:k=l.length:=by omega
  subst this;rw[List.drop_length]at cU;have cU:(-1:Int)=wz b l 0:=cU;refine Qa ?_;refine ⟨(),?_⟩;rw[<- cU];exact To.drop (ex:=[]) H av jv (by simp[Qs,Qe,look,aB])
def Xdr (gl:Nat->AV)(H:HL h m)(hl:l.length<=1000000)(ym:kb<m)(hk:∀ n,Qb h n kb=.cells (Ql l))(pU:ah m caps)
  (hf:∀ x ∈ l,GD Tryz.prog gl f (.int .i64 x::caps) h m (List.range m) (.bool (b x)) h) :
  GD Tryz.prog gl 96 [.sl 1 kb 0 l.length l.length,.cl f caps] h m (List.range m) (.bool (l.any b)) h:=by
 refine Ydw.gq (ap rfl) H.lives (fun b hb=>mem_range.1 hb) fun c bf hg=>?_;subst hg
 conv in aG _ _=>cbv
 have hc:=Yce c.gl H hl ym hk pU hf;have ha:=Xea (b:=b) l 0;refine Qa ?_;refine tn (v:=false) (ex:=[]) hc H H (by simp[Qe]) (Nat.le_refl m) av rfl ⟨?_,?_,?_⟩ ?_
 ·exact Qp
 ·exact Qi @Yl
 ·simp[ah,Qe,ym,pU]
 refine Qa ?_;refine ⟨(),?_⟩;rw[<- ha];exact To.drop (ex:=[]) H av (fun b hb=>mem_range.1 hb) (by simp[Qs,Qe,look,aB])
end
section
variable {h:List (Nat×Bk)}{mm nb mb pb:Nat}{S:NS}{m:Mp}
def Xts (hS:NB S)(H:HL h mm)(pT:∀ n,Qb h n 67=.cells S.cells)(rK:∀ n,Qb h n 68=.az (gJ S.fl) false)(Dm:∀ n,Qb h n nb=.cells [.ptr 67 0])(df:∀ n,Qb h n mb=.cells m.enc){q:Int×Fl}(hq:q ∈ S.fl) :
  GD Tryz.prog gl 101 [.int .i64 q.1,.ptr nb 0,.ptr mb 0] h mm (List.range mm) (.bool (decide (q.2.map=m))) h:=by
 refine Xm6.gq (ap rfl) H.lives (fun b hb=>mem_range.1 hb) fun c bf hg=>?_;subst hg
 conv in aG _ _=>cbv
 have fc:=L3 hS.c4 hq (.agg Fl.zero);have eM:=rG q.1;have eb:=A9 S.fl;have aY:=NS.aU hS.wf;have fF:=NS.fF hS.wf;obtain ⟨k,f⟩:=q;obtain ⟨⟨p0,p1,p2,p3,p4⟩,g0,g1,g2,g3,g4⟩:=f;obtain ⟨mp,ms,mi,ma,mt⟩:=m;have heq:=@xL c false ⟨p0,p1,p2,p3,p4⟩ ⟨mp,ms,mi,ma,mt⟩;unfold Mp.enc at heq df;unfold Fl.enc Zj at fc;dsimp only at fc heq df eM ⊢;refine Qd (An @Dm (An @pT (An @aY @fF))) ?_;refine Ul nQ (An @rK (An @eb (An @eM (An @fc @df)))) ?_
 ((first|apply Yy|apply Yh|apply Xo|apply Xg)<;>(first|exact heq|(refine XG ?_;first|exact rfl|exact True.intro|((try with_reducible and_intros);all_goals try first|refine zm ?_|exact CL))))
 refine Qa ?_
 ·simp[Wp,Wl,cJ];decide
 exact ⟨(),To.drop (ex:=[]) H av (fun b hb=>mem_range.1 hb) (by simp[Qs,Qe,look,aB])⟩
def Yc3 (hS:NJ S)(H:HL h mm)(pT:∀ n,Qb h n 67=.cells S.cells)(rK:∀ n,Qb h n 68=.az (gJ S.fl) false)(Dm:∀ n,Qb h n nb=.cells [.ptr 67 0])(df:∀ n,Qb h n mb=.cells m.enc){p:Pk}(Dn:∀ n,Qb h n pb=.cells p.enc){q:Int×Fl}(hq:q ∈ S.fl) :
  GD Tryz.prog gl 97 [.int .i64 q.1,.ptr nb 0,.ptr mb 0,.ptr pb 0] h mm (List.range mm) (.bool (decide (q.2.map=m)&&q.2.rem==p.aF)) h:=by
 refine Ybe.gq (ap rfl) H.lives (fun b hb=>mem_range.1 hb) fun c bf hg=>?_;subst hg
 conv in aG _ _=>cbv
 have fc:=L3 hS.c4 hq (.agg Fl.zero);have eM:=rG q.1;have eb:=A9 S.fl;have aY:=NS.aU hS.wf;have fF:=NS.fF hS.wf;obtain ⟨k,f⟩:=q;obtain ⟨⟨p0,p1,p2,p3,p4⟩,g0,g1,g2,g3,g4⟩:=f;obtain ⟨mp,ms,mi,ma,mt⟩:=m;obtain ⟨x1,x2,x3,x4,x5,x6,x7,x8,x9,x10,x11,xb⟩:=p;have heq:=@xL c false ⟨p0,p1,p2,p3,p4⟩ ⟨mp,ms,mi,ma,mt⟩;unfold Mp.enc at heq df;unfold Pk.enc at Dn;unfold Fl.enc Zj at fc;dsimp only at fc heq df Dn eM ⊢;refine Qd (An @Dm (An @pT (An @aY @fF))) ?_;refine Ul nQ (An @rK (An @eb (An @eM (An @fc @df)))) ?_;by_cases hm:(⟨p0,p1,p2,p3,p4⟩:Mp)=⟨mp,ms,mi,ma,mt⟩
 ·rw[decide_eq_true hm]at heq ⊢;refine Qj heq (An @Dm (An @pT (An @aY (An @fF @Dn)))) ?_;refine Xwm nQ ?_ ?_ ?_
  ·exact Qp
  ·exact Qp
  (have aQ:=@rK;have bu:=@eb;have bO:=@eM;have cy:=@fc;have dc:=@df;have eT:=@Dn;refine XG ?_;clear aQ bu bO cy dc eT;((try with_reducible and_intros);all_goals try first|refine zm ?_|exact CL))
  ·simp[Wp,Wl,cJ];decide
  exact ⟨(),To.drop (ex:=[]) H av (fun b hb=>mem_range.1 hb) (by simp[Qs,Qe,look,aB])⟩
 ·rw[decide_eq_false hm]at heq ⊢;refine Qj heq (An @Dm (An @pT (An @aY (An @fF @Dn)))) ?_
  ((first|apply xh|apply xi)<;>(have aQ:=@Dm;have bu:=@pT;have bO:=@aY;have cy:=@fF;have dc:=@Dn;refine XG ?_;clear aQ bu bO cy dc;first|exact rfl|exact True.intro|((try with_reducible and_intros);all_goals try first|refine zm ?_|exact CL)))
  ·simp[Wp,Wl,cJ];decide
  exact ⟨(),To.drop (ex:=[]) H av (fun b hb=>mem_range.1 hb) (by simp[Qs,Qe,look,aB])⟩
end
end Go.Proofs.YtogckmommodmhaaGreatDoor
