import Derived.Test.YtogckmommodmhaaGreatDoorZt3
import Derived.DeepKeys
import Derived.Laws.StructEq
import Derived.Laws.AppendOwn
import Derived.Great.BuildSlice
import Derived.Laws.IdiomStrings
import Derived.KernelRfl
set_option maxHeartbeats 16000000
namespace Go.Proofs.YtogckmommodmhaaGreatDoor
open Go.RowKit
set_option linter.all false
set_option linter.unusedSimpArgs false
set_option maxRecDepth 100000
inductive TC where
 | skip
 | JB (l:List bF)
 | wZ (l:List bF) (anc:List Nat)
 | seq (a b:TC)
 | cond (x:TV) (a b:TC)
 | block (i:Nat) (b:TC)
 | loop (b:TC)
 | exit (i:Nat)
 | ret
def Jh (P:Program) (N:Nat):Code→Option TC
 | .skip=>some .skip
 | .region _ ops false=>(sj P N ops ops.toList).map .JB
 | .region _ ops true=>if I4 ops=true then (sj P N ops ops.toList).map fun l=>.wZ l (zO ops.toList []) else none
 | .seq a b=>match Jh P N a,Jh P N b with
  | some x,some y=>some (.seq x y)
  | _,_=>none
 | .cond c a b=>match Jh P N a,Jh P N b with
  | some x,some y=>some (.cond (aT c) x y)
  | _,_=>none
 | .block i b=>(Jh P N b).map (.block i)
 | .loop b=>(Jh P N b).map .loop
 | .exit i=>some (.exit i)
 | .ret=>some .ret
 | _=>none
inductive EX where
 | normal
 | exit (i:Nat)
 | ret
def FG (c:Cx) (Q:EX→St→Prop):Exit→Act→World→Prop
 | .normal,a,w=>∃ g s,R c g s.fs a w∧Q .normal s
 | .exit i,a,w=>∃ g s,R c g s.fs a w∧Q (.exit i) s
 | .ret,a,w=>∃ g s,R c g s.fs a w∧Q .ret s
 | _,_,_=>False
def AW (P:Program) (c:Cx) (code:Code) (Q:EX→St→Prop) (s:St):Prop:=∀ g a w,R c g s.fs a w→code.wp P (FG c Q) a w
def P6 (k:(EX→St→Prop)→St→Prop) (Q:EX→St→Prop):EX→St→Prop
 | .normal,s=>k Q s
 | e,s=>Q e s
def zQ (i:Nat) (Q:EX→St→Prop):EX→St→Prop
 | .exit j,s=>if j=i then Q .normal s else Q (.exit j) s
 | e,s=>Q e s
def sk (P:Program) (c:Cx) (b:TC) (Q:EX→St→Prop) (s:St):Prop:=∀ code,Jh P c.N code=some b→AW P c (.loop code) Q s
def xw (P:Program) (c:Cx):TC→(EX→St→Prop)→St→Prop
 | .skip,Q,s=>Q .normal s
 | .JB l,Q,s=>XP P c l (Q .normal) s
 | .wZ l anc,Q,s=>XD P c anc l [] (Q .normal) s
 | .seq a b,Q,s=>xw P c a (P6 (xw P c b) Q) s
 | .cond x a b,Q,s=>ff (aZ c.gl s.fs x)∧(eE (aZ c.gl s.fs x)=true→xw P c a Q s)∧(eE (aZ c.gl s.fs x)=false→xw P c b Q s)
 | .block i b,Q,s=>xw P c b (zQ i Q) s
 | .loop b,Q,s=>sk P c b Q s
 | .exit i,Q,s=>Q (.exit i) s
 | .ret,Q,s=>Q .ret s
def FH (P:Program) (c:Cx) (b:TC) (Q:EX→St→Prop):EX→St→Prop:=P6 (xw P c b) Q
section
variable {P:Program} {c:Cx} {Q:EX→St→Prop} {s:St}
theorem Xy5:xw P c .skip Q s=Q .normal s:=rfl
theorem Ycs (l:List bF):xw P c (.JB l) Q s=XP P c l (Q .normal) s:=rfl
theorem Ya1 (l:List bF) (anc:List Nat):xw P c (.wZ l anc) Q s=XD P c anc l [] (Q .normal) s:=rfl
theorem Ycg (a b:TC):xw P c (.seq a b) Q s=xw P c a (FH P c b Q) s:=rfl
theorem Yb8 (x:TV) (a b:TC):xw P c (.cond x a b) Q s=(ff (aZ c.gl s.fs x)∧(eE (aZ c.gl s.fs x)=true→xw P c a Q s)∧(eE (aZ c.gl s.fs x)=false→xw P c b Q s)):=rfl
theorem Xvt (i:Nat) (b:TC):xw P c (.block i b) Q s=xw P c b (zQ i Q) s:=rfl
theorem Xyq (b:TC):xw P c (.loop b) Q s=sk P c b Q s:=rfl
theorem Xyo (i:Nat):xw P c (.exit i) Q s=Q (.exit i) s:=rfl
theorem Yd8:xw P c .ret Q s=Q .ret s:=rfl
theorem Qzz (b:TC):FH P c b Q .normal s=xw P c b Q s:=rfl
theorem Xjb (b:TC) (i:Nat):FH P c b Q (.exit i) s=Q (.exit i) s:=rfl
theorem Xta (b:TC):FH P c b Q .ret s=Q .ret s:=rfl
end
section
variable {P:Program} {c:Cx}
theorem Qyk {ops:Array Oper} {id:Nat} {l:List bF} {Q:EX→St→Prop} {s:St} (hm:P.follows .mixedOrders=true) (hb:I4 ops=true) (he:sj P c.N ops ops.toList=some l)
  (h:XD P c (zO ops.toList []) l [] (Q .normal) s):AW P c (.region id ops true) Q s:=by
 intro g a w hR
 obtain ⟨S,F,sn,h1,h2,h3,h4,h5⟩:=PY ops.toList l [] s he h
 have hn:ops.toList.length=ops.size:=by simp
 rw[hn]at h3 h5
 simp only[List.reverse_nil,List.nil_append]at h5
 have hc:Ch ops.size S F (fun j=>(List.range ops.size).filter fun i=>((zO ops.toList []).getD j 0).testBit i):=by
  refine ⟨fun j hj=>?_,fun j hj=>?_,fun i j iJ hj aV=>?_⟩
  ·exact (h2 j ops[j] (by simp[hj])).bf
  ·exact (h2 j ops[j] (by simp[hj])).da
  ·have:=PX _ [] h5 j (by simpa using hj) i (by simp;omega) (by simpa using iJ) (by simpa using Xs2 aV)
   simp only[List.mem_filter,List.mem_range]
   exact ⟨by omega,by simpa using this⟩
 refine wp_region_any hm ?_
 have JC:HeadInv .any ops ops.size (Array.replicate ops.size false) :=
  ⟨by simp,fun j oj _ hl=>(by rw[getD_replicate_false]at hl;cases hl),fun t ht mz=>by omega⟩
 have bb:R c g s.fs a { w with drawn:=w.drawn + 1 }:=hR.grow (Fr.drew w _)
 refine Xqm (S:=S) (F:=F) rfl hb hc (fun L' fZ j hj=>?_) (fun j o ho=>h2 j o (by simpa using ho)) (fun g' a' w' JD=>⟨g',sn,by rw[h3];exact JD,h4⟩) _ _ g a _ JC ?_ ?_
 ·intro i hi
  exact PV (ops:=ops) (L:=fun k=>L' k=true) fZ ops.toList [] (fun i=>by simp) (fun j hj=>by simp at hj) j hj i (List.mem_filter.1 hi).2
 ·rw[P3 _ fun j _=>getD_replicate_false _ _,h1];exact bb
 ·unfold cx
  rw[List.filter_eq_self.2 (fun j hj=>by
   have cV:=List.mem_range.1 hj
   rw[getD_in (by simp;omega) (getD_replicate_false _ _)];rfl)]
  simp
end
section
variable {P:Program} {c:Cx}
theorem va (hm:P.follows .mixedOrders=true):∀ (code:Code) (t:TC) (Q:EX→St→Prop) (s:St),Jh P c.N code=some t→xw P c t Q s→AW P c code Q s:=by
 intro code
 induction code with
 | skip =>
  intro t Q s he h g a w hR
  simp[Jh]at he;subst he
  exact wp_skip ⟨g,s,hR,h⟩
 | region id ops d =>
  intro t Q s he h
  cases d with
  | false =>
   simp only[Jh,Option.map_eq_some_iff]at he
   obtain ⟨l,hl,rfl⟩:=he
   intro g a w hR
   exact wp_region_list (I3 (K:=Q .normal) (fun s g a w hs hR=>⟨g,s,hR,hs⟩) ops.toList l s hl h g a w hR)
  | true =>
   simp only[Jh]at he
   split at he
   ·rename_i hb
    simp only[Option.map_eq_some_iff]at he
    obtain ⟨l,hl,rfl⟩:=he
    exact Qyk hm hb hl h
   ·cases he
 | seq x y ihx ihy =>
  intro t Q s he h g a w hR
  simp only[Jh]at he
  split at he
  ·rename_i tx ty hx hy
   simp at he;subst he
   refine wp_seq (wp_mono (ihx tx _ s hx h g a w hR) fun e a' w' hq=>?_)
   cases e with
   | normal =>
    obtain ⟨g',s',bb,cF⟩:=hq
    exact ihy ty Q s' hy cF g' a' w' bb
   | exit i=>exact hq
   | ret=>exact hq
   | goto l=>exact hq
   | panic ch=>exact hq
   | outgrown=>exact hq
  ·cases he
 | cond x a b P7 P8 =>
  intro t Q s he h g act w hR
  simp only[Jh]at he
  split at he
  ·rename_i ta tb ha hb
   simp at he;subst he
   obtain ⟨h1,h2,h3⟩:=h
   have hv:=(hR.ev x).ff h1
   refine wp_cond_split hv (fun ht=>?_) fun hf=>?_
   ·exact P7 ta Q s ha (h2 ht) g act w hR
   ·exact P8 tb Q s hb (h3 hf) g act w hR
  ·cases he
 | block i b ih =>
  intro t Q s he h g a w hR
  simp only[Jh,Option.map_eq_some_iff]at he
  obtain ⟨tb,hb,rfl⟩:=he
  refine wp_block (wp_mono (ih tb _ s hb h g a w hR) fun e a' w' hq=>?_)
  cases e with
  | exit j =>
   obtain ⟨g',s',bb,cF⟩:=hq
   simp only[zQ]at cF
   simp only[Exit.inBlock]
   split
   ·rename_i e;rw[if_pos e]at cF;exact ⟨g',s',bb,cF⟩
   ·rename_i e;rw[if_neg e]at cF;exact ⟨g',s',bb,cF⟩
  | normal=>exact hq
  | ret=>exact hq
  | goto l=>exact hq
  | panic ch=>exact hq
  | outgrown=>exact hq
 | loop b ih =>
  intro t Q s he h
  simp only[Jh,Option.map_eq_some_iff]at he
  obtain ⟨tb,hb,rfl⟩:=he
  exact h b hb
 | exit i =>
  intro t Q s he h g a w hR
  simp[Jh]at he;subst he
  exact wp_exit ⟨g,s,hR,h⟩
 | ret =>
  intro t Q s he h g a w hR
  simp[Jh]at he;subst he
  exact wp_ret ⟨g,s,hR,h⟩
 | rangeFunc f ps a b P7 P8=>intro t Q s he;simp[Jh]at he
 | scope b ih=>intro t Q s he;simp[Jh]at he
 | label l=>intro t Q s he;simp[Jh]at he
 | goto l=>intro t Q s he;simp[Jh]at he
 | refuse why=>intro t Q s he;simp[Jh]at he
end
mutual
def Qe (n:Nat):AV→Prop
 | .dp _ v=>Qe n v
 | .agg cs=>ai n cs
 | .aX cs=>ai n cs
 | .xp cs _=>ai n cs
 | .isl _ cs=>ai n cs
 | .cl _ cs=>ai n cs
 | .ptr b _=>b < n
 | .sl _ b _ _ _=>b < n
 | .mp b=>b < n
 | _=>True
def ai (n:Nat):List AV→Prop
 | []=>True
 | x::xs=>Qe n x∧ai n xs
end
mutual
def aD (ρ:Nat→Nat):AV→AV
 | .dp b v=>.dp b (aD ρ v)
 | .agg cs=>.agg (ay ρ cs)
 | .aX cs=>.aX (ay ρ cs)
 | .xp cs o=>.xp (ay ρ cs) o
 | .isl n cs=>.isl n (ay ρ cs)
 | .cl f cs=>.cl f (ay ρ cs)
 | .ptr b o=>.ptr (ρ b) o
 | .sl es b o n c=>.sl es (ρ b) o n c
 | .mp b=>.mp (ρ b)
 | .any=>.any
 | .int k n=>.int k n
 | .bool b=>.bool b
 | .str l=>.str l
 | .nils=>.nils
 | .lit v=>.lit v
def ay (ρ:Nat→Nat):List AV→List AV
 | []=>[]
 | x::xs=>aD ρ x::ay ρ xs
end
theorem Xj {n:Nat}:∀ {cs:List AV},ai n cs ↔ ∀ x ∈ cs,Qe n x
 | []=>by simp[ai]
 | x::xs=>by simp[ai,Xj (cs:=xs)]
theorem Yf (ρ:Nat→Nat):∀ cs:List AV,ay ρ cs=cs.map (aD ρ)
 | []=>by simp[ay]
 | x::xs=>by simp[ay,Yf ρ xs]
theorem Ys (ρ:Nat→Nat) (cs:List AV):(ay ρ cs).length=cs.length:=by rw[Yf];simp
theorem Kq (ρ:Nat→Nat) (cs:List AV) (j:Nat):(ay ρ cs).getD j .any=aD ρ (cs.getD j .any):=by
 rw[Yf]
 simp only[List.getD,List.getElem?_map]
 cases cs[j]?<;>simp[aD]
theorem Ja {n:Nat} {cs:List AV} (h:ai n cs) (j:Nat):Qe n (cs.getD j .any):=by
 by_cases hj:j < cs.length
 ·rw[BU hj];exact Xj.1 h _ (List.getElem_mem _)
 ·have:cs.getD j .any=.any:=by simp[List.getD,Nat.le_of_not_lt hj]
  rw[this];simp[Qe]
section
variable {P:Program} {W:Nat→Prop} {w:World} {g g':Nat→GM} {n:Nat} {ρ:Nat→Nat}
theorem VR.aD (hg:∀ b,b < n→g (ρ b)=g' b) {v:AV} {u:Value} (h:VR g' W w v u):Qe n v→VR g W w (aD ρ v) u:=by
 induction h with
 | any v=>intro _;simp only[Proofs.YtogckmommodmhaaGreatDoor.aD];exact .any _
 | dp h h0 ih=>intro hn;simp only[Proofs.YtogckmommodmhaaGreatDoor.aD];simp only[Qe]at hn;exact .dp (fun hb=>ih hb hn) h0
 | int k n=>intro _;simp only[Proofs.YtogckmommodmhaaGreatDoor.aD];exact .int _ _
 | bool b=>intro _;simp only[Proofs.YtogckmommodmhaaGreatDoor.aD];exact .bool _
 | str l=>intro _;simp only[Proofs.YtogckmommodmhaaGreatDoor.aD];exact .str _
 | agg hs h1 h ih =>
  intro hn;simp only[Proofs.YtogckmommodmhaaGreatDoor.aD];simp only[Qe]at hn
  exact .agg (by rw[Ys];exact hs) (fun j hj=>h1 j (by rwa [Ys]at hj)) fun j hj=>by rw[Kq];exact ih j (by rwa [Ys]at hj) (Ja hn j)
 | aX hs h ih =>
  intro hn;simp only[Proofs.YtogckmommodmhaaGreatDoor.aD];simp only[Qe]at hn
  exact .aX (by rw[Ys];exact hs) fun j hj=>by rw[Kq];exact ih j (by rwa [Ys]at hj) (Ja hn j)
 | ptr e=>intro hn;simp only[Proofs.YtogckmommodmhaaGreatDoor.aD];simp only[Qe]at hn;exact .ptr (by rw[hg _ hn];exact e)
 | xp hc h ih =>
  intro hn;simp only[Proofs.YtogckmommodmhaaGreatDoor.aD];simp only[Qe]at hn
  exact .xp (fun j hj=>hc j (by rwa [Ys]at hj)) fun j hj=>by rw[Kq];exact ih j (by rwa [Ys]at hj) (Ja hn j)
 | sl e a b c d f=>intro hn;simp only[Proofs.YtogckmommodmhaaGreatDoor.aD];simp only[Qe]at hn;exact .sl (by rw[hg _ hn];exact e) a b c d f
 | kr e hc=>intro hn;simp only[Proofs.YtogckmommodmhaaGreatDoor.aD];simp only[Qe]at hn;exact .kr (by rw[hg _ hn];exact e) hc
 | isl a b hc h ih =>
  intro hn;simp only[Proofs.YtogckmommodmhaaGreatDoor.aD];simp only[Qe]at hn
  exact .isl a b (fun j hj=>hc j (by rwa [Ys]at hj)) fun j hj=>by rw[Kq];exact ih j (by rwa [Ys]at hj) (Ja hn j)
 | nils a=>intro _;simp only[Proofs.YtogckmommodmhaaGreatDoor.aD];exact .nils _
 | cl hs h ih =>
  intro hn;simp only[Proofs.YtogckmommodmhaaGreatDoor.aD];simp only[Qe]at hn
  exact .cl (by rw[Ys];exact hs) fun j hj=>by rw[Kq];exact ih j (by rwa [Ys]at hj) (Ja hn j)
 | mp e=>intro hn;simp only[Proofs.YtogckmommodmhaaGreatDoor.aD];simp only[Qe]at hn;exact .mp (by rw[hg _ hn];exact e)
 | lit v=>intro _;simp only[Proofs.YtogckmommodmhaaGreatDoor.aD];exact .lit _
theorem VR.iK (hg:∀ b,b < n→g (ρ b)≠.un→g (ρ b)=g' b) {x:AV} {u:Value} (h:VR g W w x u):∀ v,x=Proofs.YtogckmommodmhaaGreatDoor.aD ρ v→Qe n v→VR g' W w v u:=by
 induction h with
 | any=>intro v e _;cases v<;>simp[Proofs.YtogckmommodmhaaGreatDoor.aD]at e;exact .any _
 | dp h h0 ih=>intro v e hn;cases v<;>simp[Proofs.YtogckmommodmhaaGreatDoor.aD]at e;obtain ⟨rfl,rfl⟩:=e;exact .dp (fun hb=>ih hb _ rfl (by simpa [Qe] using hn)) h0
 | int k n=>intro v e _;cases v<;>simp[Proofs.YtogckmommodmhaaGreatDoor.aD]at e;obtain ⟨rfl,rfl⟩:=e;exact .int _ _
 | bool b=>intro v e _;cases v<;>simp[Proofs.YtogckmommodmhaaGreatDoor.aD]at e;subst e;exact .bool _
 | str l=>intro v e _;cases v<;>simp[Proofs.YtogckmommodmhaaGreatDoor.aD]at e;subst e;exact .str _
 | agg hs h1 h ih =>
  intro v e hn;cases v<;>simp[Proofs.YtogckmommodmhaaGreatDoor.aD]at e;subst e;simp only[Qe]at hn
  rw[Ys]at hs h1 ih
  exact .agg hs h1 fun j hj=>ih j hj _ (Kq _ _ _) (Ja hn j)
 | aX hs h ih =>
  intro v e hn;cases v<;>simp[Proofs.YtogckmommodmhaaGreatDoor.aD]at e;subst e;simp only[Qe]at hn
  rw[Ys]at hs ih
  exact .aX hs fun j hj=>ih j hj _ (Kq _ _ _) (Ja hn j)
 | ptr e0=>intro v e hn;cases v<;>simp[Proofs.YtogckmommodmhaaGreatDoor.aD]at e;obtain ⟨rfl,rfl⟩:=e;simp only[Qe]at hn;exact .ptr (by rw[← hg _ hn (by rw[e0];intro x;cases x)];exact e0)
 | xp hc h ih =>
  intro v e hn;cases v<;>simp[Proofs.YtogckmommodmhaaGreatDoor.aD]at e;obtain ⟨rfl,rfl⟩:=e;simp only[Qe]at hn
  rw[Ys]at hc ih
  exact .xp hc fun j hj=>ih j hj _ (Kq _ _ _) (Ja hn j)
 | sl e0 a b c d f=>intro v e hn;cases v<;>simp[Proofs.YtogckmommodmhaaGreatDoor.aD]at e;obtain ⟨rfl,rfl,rfl,rfl,rfl⟩:=e;simp only[Qe]at hn;exact .sl (by rw[← hg _ hn (by rw[e0];intro x;cases x)];exact e0) a b c d f
 | kr e0 hc=>intro v e hn;cases v<;>simp[Proofs.YtogckmommodmhaaGreatDoor.aD]at e;obtain ⟨rfl,rfl,rfl,rfl,rfl⟩:=e;simp only[Qe]at hn;exact .kr (by rw[← hg _ hn (by rw[e0];intro x;cases x)];exact e0) hc
 | isl a b hc h ih =>
  intro v e hn;cases v<;>simp[Proofs.YtogckmommodmhaaGreatDoor.aD]at e;obtain ⟨rfl,rfl⟩:=e;simp only[Qe]at hn
  rw[Ys]at hc ih
  exact .isl a b hc fun j hj=>ih j hj _ (Kq _ _ _) (Ja hn j)
 | nils a=>intro v e _;cases v<;>simp[Proofs.YtogckmommodmhaaGreatDoor.aD]at e;exact .nils _
 | cl hs h ih =>
  intro v e hn;cases v<;>simp[Proofs.YtogckmommodmhaaGreatDoor.aD]at e;obtain ⟨rfl,rfl⟩:=e;simp only[Qe]at hn
  rw[Ys]at hs ih
  exact .cl hs fun j hj=>ih j hj _ (Kq _ _ _) (Ja hn j)
 | mp e0=>intro v e hn;cases v<;>simp[Proofs.YtogckmommodmhaaGreatDoor.aD]at e;subst e;simp only[Qe]at hn;exact .mp (by rw[← hg _ hn (by rw[e0];intro x;cases x)];exact e0)
 | lit=>intro v e _;cases v<;>simp[Proofs.YtogckmommodmhaaGreatDoor.aD]at e;subst e;exact .lit _
theorem qk (ρ:Nat→Nat) (h:∀ b,ρ b=b):∀ v:AV,Proofs.YtogckmommodmhaaGreatDoor.aD ρ v=v:=by
 have:ρ=id:=funext h
 subst this
 intro v
 exact AV.rec (motive_1:=fun v=>Proofs.YtogckmommodmhaaGreatDoor.aD id v=v) (motive_2:=fun l=>ay id l=l) (by simp[Proofs.YtogckmommodmhaaGreatDoor.aD]) (fun b v h=>by simp[Proofs.YtogckmommodmhaaGreatDoor.aD,h]) (fun _ _=>by simp[Proofs.YtogckmommodmhaaGreatDoor.aD]) (fun _=>by simp[Proofs.YtogckmommodmhaaGreatDoor.aD]) (fun _=>by simp[Proofs.YtogckmommodmhaaGreatDoor.aD])
  (fun cs h=>by simp[Proofs.YtogckmommodmhaaGreatDoor.aD,h]) (fun cs h=>by simp[Proofs.YtogckmommodmhaaGreatDoor.aD,h]) (fun _ _=>by simp[Proofs.YtogckmommodmhaaGreatDoor.aD]) (fun cs _ h=>by simp[Proofs.YtogckmommodmhaaGreatDoor.aD,h]) (fun _ _ _ _ _=>by simp[Proofs.YtogckmommodmhaaGreatDoor.aD]) (fun _ cs h=>by simp[Proofs.YtogckmommodmhaaGreatDoor.aD,h]) (by simp[Proofs.YtogckmommodmhaaGreatDoor.aD])
  (fun _ cs h=>by simp[Proofs.YtogckmommodmhaaGreatDoor.aD,h]) (fun _=>by simp[Proofs.YtogckmommodmhaaGreatDoor.aD]) (fun _=>by simp[Proofs.YtogckmommodmhaaGreatDoor.aD]) (by simp[ay]) (fun x xs h1 h2=>by simp[ay,h1,h2]) v
theorem VR.nm {v:AV} {u:Value} (h:VR g W w v u) (hn:Qe n v) (hg:∀ b,b < n→g b=g' b):VR g' W w v u :=
 h.iK (ρ:=id) (n:=n) (g':=g') (fun b hb _=>hg b hb) v (qk _ (fun _=>rfl) v).symm hn
end
def rl:List (Nat × Nat)→Nat→Nat
 | [],b=>b
 | (i,j)::r,b=>bif i == b then j else rl r b
def Xg (ρ:Nat→Nat):Bk→Bk
 | .cells cs=>.cells (ay ρ cs)
 | .aE kvs dn=>.aE (kvs.map fun p=>(aD ρ p.1,aD ρ p.2)) dn
 | .bl kvs bs ck=>.bl (kvs.map fun p=>(aD ρ p.1,aD ρ p.2)) bs ck
 | .iter b ck seen=>.iter (ρ b) ck seen
 | .c7 ls=>.c7 ls
 | x=>x
def bG (n:Nat):Bk→Prop
 | .cells cs=>ai n cs
 | .aE kvs _=>∀ p ∈ kvs,Qe n p.1∧Qe n p.2
 | .bl kvs _ _=>∀ p ∈ kvs,Qe n p.1∧Qe n p.2
 | .iter b _ _=>b < n
 | .c7 ls=>∀ l ∈ ls,ai 0 l
 | _=>False
def Qu (ρ:Nat→Nat) (n:Nat) (st:List (Nat × AV)):List (Nat × AV)→Prop
 | []=>True
 | (i,v)::r=>(Qe n v∧look st i=aD ρ v)∧Qu ρ n st r
def tC (ρ:Nat→Nat) (b:Nat):List (Nat × Bk)→Prop
 | []=>True
 | (b',_)::r=>ρ b'≠ρ b∧tC ρ b r
def oh (ρ:Nat→Nat) (n:Nat) (s:St):List (Nat × Bk)→Prop
 | []=>True
 | (b,x)::r=>(b < n∧bG n x∧Qc s.h s.n (ρ b)=Xg ρ x∧tC ρ b r)∧oh ρ n s r
def Sub (ρ:Nat→Nat) (s s':St):Prop:=Qu ρ s'.n s.t s'.t∧oh ρ s'.n s s'.h
theorem P9:∀ (l:List (Nat × AV)) (i:Nat),look l i=.any∨∃ p ∈ l,p.1=i∧look l i=p.2
 | [],_=>.inl rfl
 | (j,v)::l,i=>by
  rw[Zo]
  by_cases h:j=i
  ·rw[if_pos h];exact .inr ⟨(j,v),by simp,h,rfl⟩
  ·rw[if_neg h]
   rcases P9 l i with h'|⟨p,h1,h2,h3⟩
   ·exact .inl h'
   ·exact .inr ⟨p,by simp[h1],h2,h3⟩
theorem Zx:∀ (l:List (Nat × Bk)) (n i:Nat),(Qc l n i=if i < n then .dead else .free)∨∃ p ∈ l,p.1=i∧Qc l n i=p.2
 | [],n,i=>by
  exact .inl rfl
 | (j,v)::l,n,i=>by
  rw[Qd]
  by_cases h:j=i
  ·rw[if_pos h];exact .inr ⟨(j,v),by simp,h,rfl⟩
  ·rw[if_neg h]
   rcases Zx l n i with h'|⟨p,h1,h2,h3⟩
   ·exact .inl h'
   ·exact .inr ⟨p,by simp[h1],h2,h3⟩
theorem QA {ρ:Nat→Nat} {n:Nat} {st:List (Nat × AV)}:∀ {l:List (Nat × AV)},Qu ρ n st l→∀ p ∈ l,Qe n p.2∧look st p.1=aD ρ p.2
 | [],_,p,hp=>by cases hp
 | (i,v)::r,h,p,hp=>by
  rcases List.mem_cons.1 hp with rfl|hp
  ·exact h.1
  ·exact QA h.2 p hp
theorem JE {ρ:Nat→Nat} {b:Nat}:∀ {l:List (Nat × Bk)},tC ρ b l→∀ p ∈ l,ρ p.1≠ρ b
 | [],_,p,hp=>by cases hp
 | (i,v)::r,h,p,hp=>by
  rcases List.mem_cons.1 hp with rfl|hp
  ·exact h.1
  ·exact JE h.2 p hp
theorem JF {ρ:Nat→Nat} {n:Nat} {s:St}:∀ {l:List (Nat × Bk)},oh ρ n s l→∀ p ∈ l,p.1 < n∧bG n p.2∧Qc s.h s.n (ρ p.1)=Xg ρ p.2
 | [],_,p,hp=>by cases hp
 | (i,v)::r,h,p,hp=>by
  rcases List.mem_cons.1 hp with rfl|hp
  ·exact ⟨h.1.1,h.1.2.1,h.1.2.2.1⟩
  ·exact JF h.2 p hp
theorem QB {ρ:Nat→Nat} {n:Nat} {s:St}:∀ {l:List (Nat × Bk)},oh ρ n s l→∀ p ∈ l,∀ q ∈ l,ρ p.1=ρ q.1→p.1=q.1
 | [],_,p,hp=>by cases hp
 | (i,v)::r,h,p,hp=>by
  intro q hq e
  rcases List.mem_cons.1 hp with rfl|hp<;>rcases List.mem_cons.1 hq with rfl|hq
  ·rfl
  ·exact absurd e.symm (JE h.1.2.2.2 q hq)
  ·exact absurd e (JE h.1.2.2.2 p hp)
  ·exact QB h.2 p hp q hq e
theorem Xxx {ls BQ:List (List AV)} (hp:BQ.Perm ls) (hn:∀ l ∈ ls,ai 0 l):ai 0 BQ.flatten:=Xj.2 fun x hx=>by
 obtain ⟨l,hl,hx⟩:=List.mem_flatten.1 hx
 exact Xj.1 (hn l (hp.mem_iff.1 hl)) x hx
theorem BR.j7 {g g':Nat→GM} {W W':Nat→Prop} {w:World} {m:GM} {ls:List (List AV)} (h:BR g W w m (.c7 ls)) (hn:∀ l ∈ ls,ai 0 l) (hW:∀ k,W' k→W k):BR g' W' w m (.c7 ls):=by
 cases h with
 | c7 hp h =>
  refine .c7 hp ?_
  have hf:=Xxx hp hn
  generalize List.flatten _=cs at h hf
  cases h with
  | ph=>exact .ph
  | cells hb hl h1 hv hz=>exact .cells hb hl h1 (fun j hj=>((hv j hj).nm (Ja hf j) (fun b hb=>by omega)).mono (Fr.refl w W) (fun k _=>hW k) (fun _ _=>rfl)) hz
section
variable {g g':Nat→GM} {W W':Nat→Prop} {w:World}
theorem BR.iK {ρ:Nat→Nat} {n:Nat} (fh:∀ b,b < n→g (ρ b)≠.un→g (ρ b)=g' b) {mm:GM} {x:Bk} (h:BR g W w mm (Xg ρ x)) (hn:bG n x) (hW:∀ k,W' k→W k):BR g' W' w mm x:=by
 have back:∀ {v u},Qe n v→VR g W w (aD ρ v) u→VR g' W' w v u:=fun hn h=>(h.iK fh _ rfl hn).mono (Fr.refl w W) (fun k _=>hW k) (fun _ _=>rfl)
 cases x with
 | free=>exact hn.elim
 | dead=>exact hn.elim
 | cells cs =>
  simp only[Xg]at h
  simp only[bG]at hn
  generalize iv:ay ρ cs=cs' at h
  cases h with
  | ph =>
   have:cs=[]:=by cases cs<;>simp_all [ay]
   subst this;exact .ph
  | cells hb hl h1 hv hz =>
   subst iv
   rw[Ys]at hl h1 hv
   exact .cells hb hl h1 (fun j hj=>back (Ja hn j) (by have:=hv j hj;rwa [Kq]at this)) hz
 | aE kvs dn =>
  simp only[Xg]at h
  simp only[bG]at hn
  generalize iv:(kvs.map fun p=>(aD ρ p.1,aD ρ p.2))=kvs' at h
  cases h with
  | aE hb hs j5 hv hc ha hd =>
   subst iv
   rw[List.length_map]at hs j5 hv
   have aW:∀ j,j < kvs.length→(kvs.map fun p=>(aD ρ p.1,aD ρ p.2)).getD j (.any,.any)=(aD ρ (kvs.getD j (.any,.any)).1,aD ρ (kvs.getD j (.any,.any)).2):=fun j hj=>by simp[List.getD,hj]
   have bH:∀ j,j < kvs.length→kvs.getD j (.any,.any) ∈ kvs:=fun j hj=>by simp[List.getD,hj]
   exact .aE hb hs (fun j hj=>back (hn _ (bH j hj)).1 (by have:=j5 j hj;rwa [aW j hj]at this)) (fun j hj=>back (hn _ (bH j hj)).2 (by have:=hv j hj;rwa [aW j hj]at this)) hc ha hd
 | bl kvs bs ck =>
  simp only[Xg]at h
  simp only[bG]at hn
  generalize iv:(kvs.map fun p=>(aD ρ p.1,aD ρ p.2))=kvs' at h
  cases h with
  | bl hb hs j5 hv hc ha hd =>
   subst iv
   rw[List.length_map]at hs j5 hv
   have aW:∀ j,j < kvs.length→(kvs.map fun p=>(aD ρ p.1,aD ρ p.2)).getD j (.any,.any)=(aD ρ (kvs.getD j (.any,.any)).1,aD ρ (kvs.getD j (.any,.any)).2):=fun j hj=>by simp[List.getD,hj]
   have bH:∀ j,j < kvs.length→kvs.getD j (.any,.any) ∈ kvs:=fun j hj=>by simp[List.getD,hj]
   exact .bl hb hs (fun j hj=>back (hn _ (bH j hj)).1 (by have:=j5 j hj;rwa [aW j hj]at this)) (fun j hj=>back (hn _ (bH j hj)).2 (by have:=hv j hj;rwa [aW j hj]at this)) hc ha hd
 | iter b0 ck seen =>
  simp only[Xg]at h
  simp only[bG]at hn
  generalize iv:ρ b0=b1 at h
  cases h with
  | iter hb kR=>exact .iter hb (by rw[← fh b0 hn (by rw[iv,kR];intro x;cases x),iv];exact kR)
 | c7 ls=>exact BR.j7 h hn hW
end
theorem Xf {n:Nat} {x:Bk} (h:bG n x):x.live:=by cases x<;>simp_all [bG,Bk.live]
theorem zR {ρ:Nat→Nat} {x:Bk}:(Xg ρ x).live ↔ x.live:=by cases x<;>simp[Xg,Bk.live]
section
variable {P:Program} {c:Cx}
open Classical in
theorem Sub.to {ρ:Nat→Nat} {s s':St} (hs:Sub ρ s s') {g:Nat→GM} {a:Act} {w:World} (hR:R c g s.fs a w) (gJ:∀ p ∈ c.gh,ρ p.1=p.1∧p.1 < s'.n):∃ g',R c g' s'.fs a w:=by
 obtain ⟨hT,hH⟩:=hs
 let g':Nat→GM:=fun b=>if b < s'.n then (if g (ρ b)=.un then .ph else g (ρ b)) else .un
 have fh:∀ b,b < s'.n→g (ρ b)≠.un→g (ρ b)=g' b:=fun b hb h=>by simp only[g',if_pos hb,if_neg h]
 have fy:∀ b,s'.n≤b→g' b=.un:=fun b hb=>by simp only[g'];rw[if_neg af]
 have bX:∀ b,b < s'.n→g' b≠.un:=fun b hb=>by
  simp only[g',if_pos hb]
  split
  ·intro h;cases h
  ·assumption
 -- JG a live name of s' is
 have aP:∀ b,(s'.fs.H b).live→∃ p ∈ s'.h,p.1=b∧s'.fs.H b=p.2:=fun b hl=>by
  rcases Zx s'.h s'.n b with h|h
  ·have:s'.fs.H b=if b < s'.n then .dead else .free:=h
   rw[this]at hl;split at hl<;>exact hl.elim
  ·exact h
 have iL:∀ b,(s'.fs.H b).live→b < s'.n∧(s.fs.H (ρ b)).live∧g' b=g (ρ b):=fun b hl=>by
  obtain ⟨p,hp,rfl,e⟩:=aP b hl
  obtain ⟨h1,h2,h3⟩:=JF hH p hp
  have dg:(s.fs.H (ρ p.1)).live:=by
   show (Qc s.h s.n (ρ p.1)).live
   rw[h3,zR];exact Xf h2
  refine ⟨h1,dg,(fh _ h1 fun e=>?_).symm⟩
  have:=hR.h (ρ p.1)
  rw[e]at this
  generalize s.fs.H (ρ p.1)=x at this dg
  exact this.fV dg
 have hW:∀ k,Qo c g' s'.fs k→Qo c g s.fs k:=by
  rintro k (h|⟨b,h1,h2⟩)
  ·exact .inl h
  ·obtain ⟨_,h4,h5⟩:=iL b h1
   exact .inr ⟨ρ b,h4,by rw[← h5];exact h2⟩
 have hf:=Fr.refl w (Qo c g s.fs)
 have Cg:∀ {v u},VR g' (Qo c g s.fs) w v u→VR g' (Qo c g' s'.fs) w v u:=fun h=>h.mono hf (fun k _=>hW k) (fun _ _=>rfl)
 have back:∀ {v u},Qe s'.n v→VR g (Qo c g s.fs) w (aD ρ v) u→VR g' (Qo c g' s'.fs) w v u:=fun hn h=>Cg (h.iK fh _ rfl hn)
 refine ⟨g',hR.size,hR.dI,fun i=>?_,fun i=>(hR.gl i).mono hf (fun k _=>hW k) (fun _ _=>rfl),fun b=>?_,fun b b' k h1 h2 e1 e2=>?_,fun b k h1 e1=>?_,hR.fr,hR.xs,fun p hp=>?_⟩
 ·rcases P9 s'.t i with h|⟨p,h1,rfl,h3⟩
  ·show VR g' _ w (look s'.t i) _
   rw[h];exact .any _
  ·show VR g' _ w (look s'.t p.1) _
   rw[h3]
   obtain ⟨q1,q2⟩:=QA hT p h1
   have:=hR.t p.1
   have e:s.fs.T p.1=aD ρ p.2:=q2
   rw[e]at this
   exact back q1 this
 ·rcases Zx s'.h s'.n b with h|⟨p,h1,rfl,h3⟩
  ·show BR g' _ w _ (Qc s'.h s'.n b)
   rw[h]
   split
   ·rename_i hb;exact .dead (bX b hb)
   ·rename_i hb;rw[fy b af];exact .free
  ·show BR g' _ w _ (Qc s'.h s'.n p.1)
   rw[h3]
   obtain ⟨q1,q2,q3⟩:=JF hH p h1
   have hl:(s'.fs.H p.1).live:=by
    show (Qc s'.h s'.n p.1).live
    rw[h3];exact Xf q2
   obtain ⟨_,_,e5⟩:=iL p.1 hl
   rw[e5]
   have dP:=hR.h (ρ p.1)
   have e:s.fs.H (ρ p.1)=Xg ρ p.2:=q3
   rw[e]at dP
   exact dP.iK fh q2 hW
 ·obtain ⟨p1,om,rfl,_⟩:=aP b h1
  obtain ⟨p2,fb,rfl,_⟩:=aP b' h2
  obtain ⟨_,l1,d1⟩:=iL _ h1
  obtain ⟨_,l2,d2⟩:=iL _ h2
  exact QB hH p1 om p2 fb (hR.inj _ _ k l1 l2 (by rw[← d1];exact e1) (by rw[← d2];exact e2))
 ·obtain ⟨_,l1,d1⟩:=iL _ h1
  exact hR.old _ k l1 (by rw[← d1];exact e1)
 ·obtain ⟨q1,q2⟩:=hR.gX p hp
  obtain ⟨q3,q4⟩:=gJ p hp
  have:=fh p.1 q4 (by rw[q3,q1];exact q2)
  rw[← this,q3];exact ⟨q1,q2⟩
def FI {σ:Type} (I:σ→Prop) (cY:σ→St) (μ:σ→Nat) (x:σ) (Q:EX→St→Prop):EX→St→Prop
 | .normal,s=>∃ y,I y∧(∃ ρ,Sub (rl ρ) s (cY y))∧μ y < μ x
 | e,s=>Q e s
theorem Xr {σ:Type} (I:σ→Prop) (cY:σ→St) (μ:σ→Nat) {b:TC} {Q:EX→St→Prop} {s:St} (hm:P.follows .mixedOrders=true) (aY:c.gh=[]) (h0:∃ y,I y∧∃ ρ,Sub (rl ρ) s (cY y))
  (hr:∀ x,I x→xw P c b (FI I cY μ x Q) (cY x)):sk P c b Q s:=by
 intro code he g a w hR
 obtain ⟨y0,Ci,ρ0,lb⟩:=h0
 obtain ⟨g0,jM⟩:=lb.to hR (by rw[aY];intro p hp;cases hp)
 have key:∀ n (x:σ),μ x=n→I x→∀ g a w,R c g (cY x).fs a w→∀ (fr:Frame) (k:List Item) (cs:List Frame),∃ e a' w',FG c Q e a' w'∧Arrives P (lone (fr.at a (.code code::.inLoop code::k)) cs w) fr k cs e a' w':=by
  intro n
  induction n using Nat.strongRecOn with
  | _ n ih =>
   intro x hx hI g a w hR fr k cs
   have hb:=va hm code b _ _ he (hr x hI) g a w hR
   obtain ⟨e,a1,w1,hq,eR⟩:=hb fr (.inLoop code::k) cs
   cases e with
   | normal =>
    obtain ⟨g1,s1,cy,y,Cj,⟨ρ,hs⟩,hlt⟩:=hq
    obtain ⟨g2,bV⟩:=hs.to cy (by rw[aY];intro p hp;cases hp)
    obtain ⟨e2,a2,w2,kv,lf⟩:=ih (μ y) af y rfl Cj g2 a1 w1 bV fr k cs
    exact ⟨e2,a2,w2,kv,.of_steps (Steps.trans eR (.one step_inLoop)) lf⟩
   | exit i=>exact ⟨.exit i,a1,w1,hq,.pass (x:=.inLoop code) rfl (fun _ _=>.inl au) eR⟩
   | ret=>exact ⟨.ret,a1,w1,hq,.pass (x:=.inLoop code) rfl (fun _ _=>.inl au) eR⟩
   | goto l=>exact hq.elim
   | panic ch=>exact hq.elim
   | outgrown=>exact hq.elim
 intro fr k cs
 obtain ⟨e,a',w',hq,eR⟩:=key _ y0 rfl Ci g0 a w jM fr k cs
 exact ⟨e,a',w',hq,.of_steps (.one step_loop) eR⟩
def ql (m:Nat) (ρ:List (Nat × Nat)) (n:Nat):Prop:=(∀ p ∈ ρ,m≤p.1)∧m≤n
theorem QC {m:Nat}:∀ {ρ:List (Nat × Nat)} (_:∀ p ∈ ρ,m≤p.1) {b:Nat},b < m→rl ρ b=b
 | [],_,_,_=>rfl
 | (i,j)::ρ,h,b,hb=>by
  have h1:m≤i:=h (i,j) au
  have h2:=QC (ρ:=ρ) (fun p hp=>h p (by simp[hp])) hb
  have:(i == b)=false:=by simp;omega
  simp only[rl,this,cond_false,h2]
theorem JH {m:Nat} {ρ:List (Nat × Nat)} {n:Nat} (aY:∀ p ∈ c.gh,p.1 < m) (h:ql m ρ n):∀ p ∈ c.gh,rl ρ p.1=p.1∧p.1 < n:=fun p hp=>⟨QC h.1 (aY p hp),Nat.lt_of_lt_of_le (aY p hp) h.2⟩
def FJ {σ:Type} (m:Nat) (I:σ→Prop) (cY:σ→St) (μ:σ→Nat) (x:σ) (Q:EX→St→Prop):EX→St→Prop
 | .normal,s=>∃ y,I y∧(∃ ρ,ql m ρ (cY y).n∧Sub (rl ρ) s (cY y))∧μ y < μ x
 | e,s=>Q e s
theorem vd {σ:Type} (I:σ→Prop) (cY:σ→St) (μ:σ→Nat) {b:TC} {Q:EX→St→Prop} {s:St} (hm:P.follows .mixedOrders=true) (m:Nat) (aY:∀ p ∈ c.gh,p.1 < m) (h0:∃ y,I y∧∃ ρ,ql m ρ (cY y).n∧Sub (rl ρ) s (cY y))
  (hr:∀ x,I x→xw P c b (FJ m I cY μ x Q) (cY x)):sk P c b Q s:=by
 intro code he g a w hR
 obtain ⟨y0,Ci,ρ0,hp0,lb⟩:=h0
 obtain ⟨g0,jM⟩:=lb.to hR (JH aY hp0)
 have key:∀ n (x:σ),μ x=n→I x→∀ g a w,R c g (cY x).fs a w→∀ (fr:Frame) (k:List Item) (cs:List Frame),∃ e a' w',FG c Q e a' w'∧Arrives P (lone (fr.at a (.code code::.inLoop code::k)) cs w) fr k cs e a' w':=by
  intro n
  induction n using Nat.strongRecOn with
  | _ n ih =>
   intro x hx hI g a w hR fr k cs
   have hb:=va hm code b _ _ he (hr x hI) g a w hR
   obtain ⟨e,a1,w1,hq,eR⟩:=hb fr (.inLoop code::k) cs
   cases e with
   | normal =>
    obtain ⟨g1,s1,cy,y,Cj,⟨ρ,hp,hs⟩,hlt⟩:=hq
    obtain ⟨g2,bV⟩:=hs.to cy (JH aY hp)
    obtain ⟨e2,a2,w2,kv,lf⟩:=ih (μ y) af y rfl Cj g2 a1 w1 bV fr k cs
    exact ⟨e2,a2,w2,kv,.of_steps (Steps.trans eR (.one step_inLoop)) lf⟩
   | exit i=>exact ⟨.exit i,a1,w1,hq,.pass (x:=.inLoop code) rfl (fun _ _=>.inl au) eR⟩
   | ret=>exact ⟨.ret,a1,w1,hq,.pass (x:=.inLoop code) rfl (fun _ _=>.inl au) eR⟩
   | goto l=>exact hq.elim
   | panic ch=>exact hq.elim
   | outgrown=>exact hq.elim
 intro fr k cs
 obtain ⟨e,a',w',hq,eR⟩:=key _ y0 rfl Ci g0 a w jM fr k cs
 exact ⟨e,a',w',hq,.of_steps (.one step_loop) eR⟩
def zS (P : Program) (f : FuncId) : Prop := ∃ fn, P.funcs[f]? = some fn ∧ fn.body.isNone = false ∧ (fn.name == "runtime.NumGoroutine") = false
def PS (P:Program) (gl:Nat→AV) (f:FuncId) (args:List AV) (r:AV):Prop :=
 zS P f∧∀ (w:World) (vs:List Value) (X:Nat→Prop),(∀ k,X k→k < w.heap.size)→(∀ i,VR (fun _=>.un) X w (gl i) (.pointer (some ⟨i,0,none⟩)))→bL (fun _=>.un) X w args vs →
  Calls P f vs.toArray w fun e w'=>∃ v,e=.returned v∧VR (fun _=>.un) X w' r v∧Fr w w' (fun _=>False)
inductive RS where
 | t (i:Nat)
 | cell (a:Nat) (ty:TY)
def m9 (P:Program):List ResultVar→Option (List RS)
 | []=>some []
 | .tmp t::r=>(m9 P r).map (.t t::·)
 | .cell a t::r=>match kT P t,m9 P r with
  | some ty,some l=>some (.cell a ty::l)
  | _,_=>none
def rv (s:FS):RS→AV
 | .t i=>s.T i
 | .cell a ty=>match s.T a with
  | .ptr b off=>match s.H b with
   | .cells cs=>wr ty cs off
   | _=>.any
  | _=>.any
def Wr (s:FS):List RS→Prop
 | []=>True
 | .t _::r=>Wr s r
 | .cell a ty::r=>(match s.T a with
  | .ptr b off=>match s.H b with
   | .cells cs=>j6 ty cs off
   | _=>False
  | _=>False)∧Wr s r
def ga (s:FS):List RS→AV
 | [x]=>rv s x
 | l=>.aX (l.map (rv s))
def Yt (s:FS):AV→AV
 | .sl es b off n _=>match s.H b with
  | .cells cs=>.isl n ((cs.drop off).take (n * es))
  | _=>.any
 | v=>v
def Zc (s:FS):AV→AV
 | .agg cs=>.agg (cs.map (Yt s))
 | v=>Yt s v
def fC (s:FS):AV→AV
 | .aX vs=>.aX (vs.map (Zc s))
 | v=>Zc s v
def Ck (rs:List RS) (r:AV):EX→St→Prop
 | .exit _,_=>False
 | _,s=>Wr s.fs rs∧fC s.fs (ga s.fs rs)=r
def jx:Nat→List AV→List (Nat × AV)
 | _,[]=>[]
 | k,x::xs=>(k,x)::jx (k + 1) xs
theorem JI:∀ (xs:List AV) (k i:Nat),look (jx k xs) i=if k≤i∧i < k + xs.length then xs.getD (i - k) .any else .any
 | [],k,i=>by
  rw[if_neg (fun h=>by have:=h.2;simp at this;omega)];rfl
 | x::xs,k,i=>by
  simp only[jx]
  rw[Zo,JI xs (k + 1) i]
  by_cases h:k=i
  ·subst h;rw[if_pos rfl,if_pos au];simp
  ·rw[if_neg h]
   simp only[List.length_cons]
   by_cases h2:k + 1≤i∧i < k + 1 + xs.length
   ·rw[if_pos h2,if_pos af]
    have:i - k=(i - (k + 1)) + 1:=by omega
    rw[this];simp
   ·rw[if_neg h2,if_neg af]
theorem JJ {g:Nat→GM} {s:FS} {a:Act} {w:World} (hR:R c g s a w):∀ (rs:List ResultVar) (l:List RS),m9 P rs=some l→Wr s l →
  ∃ vs:List Value,(rs.mapM (fun x=>(match x with|.tmp t=>pure (a.tmps.getD t undef)|.cell ad t=>do loadVar t (← asAddr (a.tmps.getD ad undef)):Sem Value))).run P w=.ok vs w∧bL g (Qo c g s) w (l.map (rv s)) vs
 | [],l,he,_=>by simp[m9]at he;subst he;exact ⟨[],by simp,trivial⟩
 | .tmp t::r,l,he,ho=>by
  simp only[m9,Option.map_eq_some_iff]at he
  obtain ⟨l',h1,rfl⟩:=he
  obtain ⟨vs,h2,h3⟩:=JJ hR r l' h1 ho
  exact ⟨a.tmps.getD t undef::vs,by simp only[List.mapM_cons,Sem.run_bind,Sem.run_pure,Result.andThen_ok,h2],hR.t t,h3⟩
 | .cell ad t::r,l,he,ho=>by
  simp only[m9]at he
  split at he
  ·rename_i ty l' ju hl
   simp at he;subst he
   obtain ⟨xc,ho2⟩:=ho
   obtain ⟨vs,h2,h3⟩:=JJ hR r l' hl ho2
   have ht:=hR.t ad
   cases hT:s.T ad<;>rw[hT]at xc<;>simp only at xc
   rename_i b off
   rw[hT]at ht
   obtain ⟨k,e1,e2⟩:=zI ht
   cases hH:s.H b<;>rw[hH]at xc<;>simp only at xc
   rename_i cs
   have dP:=hR.h b
   rw[hH]at dP
   have Cl:∃ v,(loadVar t ⟨k,off,none⟩).run P w=.ok v w∧VR g (Qo c g s) w (wr ty cs off) v:=by
    by_cases eF:0 < cs.length
    ·obtain ⟨k',us,q1,q2,q3,q4⟩:=IJ dP eF
     rw[e2]at q1;cases q1
     obtain ⟨v,hr,nY⟩:=BV (P:=P) (o:=0) ju q2 q3 q4 xc
     exact ⟨v,by simpa [Instr.loadAt,Instr.sureAddr] using hr,nY⟩
    ·obtain ⟨rfl,rfl,rfl⟩:=Pr xc eF
     obtain ⟨v,hr,nY⟩:=BV (P:=P) (g:=g) (W:=Qo c g s) (k:=k) (o:=0) (us:=fun _=>undef) ju (fun j hj=>absurd hj au) (fun j hj=>absurd hj au) (fun j hj=>absurd hj au) xc
     exact ⟨v,by simpa [Instr.loadAt,Instr.sureAddr] using hr,nY⟩
   obtain ⟨v,nc,fM⟩:=Cl
   refine ⟨v::vs,?_,?_,h3⟩
   ·have JK:(asAddr (a.tmps.getD ad undef)).run P w=.ok ⟨k,off,none⟩ w:=by rw[e1];rfl
    simp only[List.mapM_cons,Sem.run_bind,JK,Sem.run_pure,Result.andThen_ok,nc,h2]
   ·have:rv s (.cell ad ty)=wr ty cs off:=by simp only[rv,hT,hH]
    rw[this];exact fM
  ·cases he
theorem Cm {fn:Func} {l:List RS} {g:Nat→GM} {s:FS} {a:Act} {w:World} (hR:R c g s a w) (he:m9 P fn.results.toList=some l) (ho:Wr s l):∃ v,(results fn a.tmps).run P w=.ok v w∧VR g (Qo c g s) w (ga s l) v:=by
 obtain ⟨vs,h1,h2⟩:=JJ hR _ _ he ho
 have h3:(fn.results.mapM (fun x=>(match x with|.tmp t=>pure (a.tmps.getD t undef)|.cell ad t=>do loadVar t (← asAddr (a.tmps.getD ad undef)):Sem Value))).run P w=.ok vs.toArray w:=by
  rw[Array.mapM_eq_mapM_toList]
  simp only[Sem.run_map,h1,Result.andThen_ok]
 have h4:(results fn a.tmps).run P w=.ok (if h:vs.toArray.size=1 then vs.toArray[0] else .tuple vs.toArray) w:=by
  unfold results
  rw[Sem.run_bind]
  exact (congrArg (fun r=>Result.andThen r _) h3).trans rfl
 refine ⟨_,h4,?_⟩
 clear h4 h3 h1
 match l,vs,h2 with
 | [x],[v],h2=>exact h2.1
 | [],[],_=>exact .aX rfl fun j hj=>absurd hj au
 | x::y::l,u::v::vs,h2 =>
  rw[dif_neg au]
  have hl:=h2.length
  exact .aX (by simp at hl ⊢;omega) fun j hj=>by
   have:=h2.get j hj
   simpa using this
theorem QD {g:Nat→GM} {s:FS} {a:Act} {w:World} (hR:R c g s a w) {b k:Nat} (hl:(s.H b).live) (hg:g b=.re k):¬ c.X k:=fun hx=>by
 have h1:=hR.xs k hx
 rcases hR.old b k hl hg with h|h
 ·omega
 ·exact h1.2 h
theorem VR.shut {g:Nat→GM} {s:FS} {a:Act} {w:World} (hR:R c g s a w) {v:AV} {u:Value} (h:VR g (Qo c g s) w v u) (hn:Qe 0 v):VR (fun _=>.un) c.X w v u :=
 (h.nm hn (g':=fun _=>.un) (fun b hb=>absurd hb af)).mono (Fr.refl _ _) (fun _ _ h=>.inl h) (fun _ _=>rfl)
theorem QE {g:Nat→GM} {s:FS} {a:Act} {w:World} (hR:R c g s a w) {v:AV} {u:Value} (h:VR g (Qo c g s) w v u) (hn:Qe 0 (Yt s v)):VR (fun _=>.un) c.X w (Yt s v) u:=by
 by_cases hs:∃ es b off n k,v=.sl es b off n k
 ·obtain ⟨es,b,off,n,k,rfl⟩:=hs
  simp only[Yt]at hn ⊢
  cases hH:s.H b with
  | cells cs =>
   rw[hH]at hn
   simp only at hn ⊢
   simp only[Qe]at hn
   have dP:=hR.h b
   rw[hH]at dP
   rcases po h with ⟨kk,cap,e,cur,fz,rfl,hg,h1,h2,h3,h4,h5⟩|⟨u5,rfl,hg,rfl,rfl⟩
   ·rw[hg]at dP
    have hx:=QD hR (by rw[hH];trivial) hg
    cases dP with
    | cells hb hl iH hv hz =>
     rename_i JL e2 fz2
     rw[h4]at hb;cases hb
     have hlen:∀ j,j < ((cs.drop off).take (n * es)).length→off + j < cs.length∧j < n * es:=fun j hj=>by simp at hj;omega
     refine .isl (us:=fun j=>cur.getD (off + j) undef) af h3 (fun j hj=>?_) fun j hj=>?_
     ·obtain ⟨pq,fB⟩:=hlen j hj
      refine ⟨kk,off,rfl,?_,hx,iH _ pq⟩
      have:=cell_of_row w kk (off + j) cur e fz h4
      unfold Ug
      rw[this]
      have:off + j < cur.size:=by omega
      simp[Array.getD,this]
     ·obtain ⟨pq,fB⟩:=hlen j hj
      have ee:((cs.drop off).take (n * es)).getD j .any=cs.getD (off + j) .any:=by simp only[List.getD,List.getElem?_take,List.getElem?_drop,if_pos fB]
      have mA:=Ja hn j
      rw[ee]at mA ⊢
      exact (hv _ pq).shut hR mA
   ·refine .isl (us:=fun _=>undef) (Nat.le_refl 0) (by simp[maxLen]) (fun j hj=>?_) fun j hj=>?_
    ·simp at hj
    ·simp at hj
  | _=>exact .any _
 ·have:Yt s v=v:=by
   cases v<;>first|rfl|exact absurd ⟨_,_,_,_,_,rfl⟩ hs
  rw[this]at hn ⊢
  exact h.shut hR hn
theorem JM {g:Nat→GM} {s:FS} {a:Act} {w:World} (hR:R c g s a w) {v:AV} {u:Value} (h:VR g (Qo c g s) w v u) (hn:Qe 0 (Zc s v)):VR (fun _=>.un) c.X w (Zc s v) u:=by
 by_cases hs:∃ cs,v=.agg cs
 ·obtain ⟨cs,rfl⟩:=hs
  simp only[Zc]at hn ⊢
  simp only[Qe]at hn
  obtain ⟨us,rfl,h1,h2,h3⟩:=Uc h
  refine .agg (by simpa using h1) (fun j hj=>h2 j (by simpa using hj)) fun j hj=>?_
  have cV:j < cs.length:=by simpa using hj
  have ee:(cs.map (Yt s)).getD j .any=Yt s (cs.getD j .any):=by simp[List.getD,cV]
  have mA:=Ja hn j
  rw[ee]at mA ⊢
  exact QE hR (h3 j cV) mA
 ·have:Zc s v=Yt s v:=by
   cases v<;>first|rfl|exact absurd ⟨_,rfl⟩ hs
  rw[this]at hn ⊢
  exact QE hR h hn
theorem Yeo {g:Nat→GM} {s:FS} {a:Act} {w:World} (hR:R c g s a w) {v:AV} {u:Value} (h:VR g (Qo c g s) w v u) (hn:Qe 0 (fC s v)):VR (fun _=>.un) c.X w (fC s v) u:=by
 by_cases hs:∃ cs,v=.aX cs
 ·obtain ⟨cs,rfl⟩:=hs
  simp only[fC]at hn ⊢
  simp only[Qe]at hn
  obtain ⟨us,rfl,h1,h3⟩:=BY h
  refine .aX (by simpa using h1) fun j hj=>?_
  have cV:j < cs.length:=by simpa using hj
  have ee:(cs.map (Zc s)).getD j .any=Zc s (cs.getD j .any):=by simp[List.getD,cV]
  have mA:=Ja hn j
  rw[ee]at mA ⊢
  exact JM hR (h3 j cV) mA
 ·have:fC s v=Zc s v:=by
   cases v<;>first|rfl|exact absurd ⟨_,rfl⟩ hs
  rw[this]at hn ⊢
  exact JM hR h hn
theorem Xyl {w:World} {vs:List Value} {args:List AV} {N:Nat} (hN:args.length≤N) {X:Nat→Prop} {gl:Nat→AV} (hX:∀ k,X k→k < w.heap.size) (fD:∀ i,VR (fun _=>.un) X w (gl i) (.pointer (some ⟨i,0,none⟩)))
  (hv:bL (fun _=>.un) X w args vs):R ⟨N,w,fun _=>False,X,gl,[]⟩ (fun _=>.un) (⟨jx 0 args,[],0⟩:St).fs { tmps:=vs.toArray++Array.replicate (N - vs.toArray.size) undef,defers:=[] } w:=by
 have hl:=hv.length
 have hH:∀ b,(⟨jx 0 args,[],0⟩:St).fs.H b=.free:=fun b=>by
  show Qc [] 0 b=.free
  rcases Zx [] 0 b with h|⟨p,hp,_⟩
  ·rw[h];simp
  ·cases hp
 have hW:∀ k,Qo ⟨N,w,fun _=>False,X,gl,[]⟩ (fun _=>.un) (⟨jx 0 args,[],0⟩:St).fs k→X k:=by
  rintro k (h|⟨b,h1,_⟩)
  ·exact h
  ·rw[hH]at h1;exact h1.elim
 have kY:∀ {v u},VR (fun _=>.un) X w v u→VR (fun _=>.un) (Qo ⟨N,w,fun _=>False,X,gl,[]⟩ (fun _=>.un) (⟨jx 0 args,[],0⟩:St).fs) w v u:=fun h=>h.mono (Fr.refl _ _) (fun k _=>hW k) (fun _ _=>rfl)
 refine ⟨by simp;omega,rfl,fun i=>?_,fun i=>kY (fD i),fun b=>by rw[hH];exact .free,fun b b' k h=>by rw[hH]at h;exact h.elim,fun b k h=>by rw[hH]at h;exact h.elim,Fr.refl _ _,fun k hk=>⟨hX k hk,id⟩,fun p hp=>by cases hp⟩
 show VR _ _ w (look (jx 0 args) i) _
 rw[JI]
 split
 ·rename_i h
  have hi:i < vs.length:=by omega
  have:=hv.get i af
  have e:(vs.toArray++Array.replicate (N - vs.toArray.size) undef).getD i undef=vs.getD i undef:=by
   simp only[Array.getD_eq_getD_getElem?,List.getD]
   rw[Array.getElem?_append_left (by simpa using hi)]
   simp
  rw[e]
  simpa using kY this
 ·exact .any _
theorem Xv3 {gl : Nat → AV} {f : FuncId} {fn : Func} {code : Code} {t : TC} {rs : List RS} {args : List AV} {r : AV} (hm : P.follows .mixedOrders = true) (hf : P.funcs[f]? = some fn) (hb : fn.body = some code) (dQ : (fn.name == "runtime.NumGoroutine") = false)
  (he:Jh P fn.ntmps code=some t) (hr:m9 P fn.results.toList=some rs) (hN:args.length≤fn.ntmps) (eM:Qe 0 r)
  (h:∀ c:Cx,c.gh=[]→c.gl=gl→xw P c t (Ck rs r) ⟨jx 0 args,[],0⟩):PS P gl f args r:=by
 refine ⟨⟨fn,hf,by rw[hb];rfl,dQ⟩,fun w vs X hX fD hv=>?_⟩
 refine calls_of_wp hf hb ?_
 have hR:=Xyl hN hX fD hv
 have:=va (c:=⟨fn.ntmps,w,fun _=>False,X,gl,[]⟩) hm code t _ _ he (h _ rfl rfl) _ _ _ hR
 refine wp_mono this fun e a' w' hq=>?_
 have fin:∀ (g:Nat→GM) (s:St),R ⟨fn.ntmps,w,fun _=>False,X,gl,[]⟩ g s.fs a' w'→(Wr s.fs rs∧fC s.fs (ga s.fs rs)=r)→a'.defers=[]∧∃ v,(results fn a'.tmps).run P w'=.ok v w'∧(∃ nd,Ending.returned v=.returned nd∧VR (fun _=>.un) X w' r nd∧Fr w w' fun _=>False):=by
  intro g s bb ⟨h1,h2⟩
  obtain ⟨v,h3,h4⟩:=Cm bb hr h1
  refine ⟨bb.dI,v,h3,v,rfl,?_,bb.fr⟩
  rw[← h2]at eM ⊢
  exact Yeo bb h4 eM
 cases e with
 | normal=>obtain ⟨g,s,bb,cF⟩:=hq;exact fin g s bb cF
 | ret=>obtain ⟨g,s,bb,cF⟩:=hq;exact fin g s bb cF
 | exit i=>obtain ⟨g,s,bb,cF⟩:=hq;exact cF.elim
 | goto l=>exact hq.elim
 | panic ch=>exact hq.elim
 | outgrown=>exact hq.elim
theorem xd {o:Oper} {f:FuncId} {xs:List Operand} (h:Yh P o=some (.call f,xs)):∃ ts,o.op=.call ⟨.value (.func f),xs.toArray,ts⟩:=by
 unfold Yh at h
 repeat' split at h
 all_goals first
  | (simp only[Option.some.injEq,Prod.mk.injEq,PK.call.injEq]at h;obtain ⟨rfl,rfl⟩:=h;rename_i bh;exact ⟨_,by rw[bh]⟩)
  | (simp at h;done)
  | (cases h;done)
  | (simp[Option.map_eq_some_iff]at h;done)
theorem xe {f:FuncId} (hc:zS P f) {o:Oper} {xs:List Operand} {ts:Array TypeId} (ho:o.op=.call ⟨.value (.func f),xs.toArray,ts⟩) (a:Act) (w:World) :
  (execOp a.eval o).run P w=.ok (.enter f (xs.map a.eval).toArray) w:=by
 obtain ⟨fn,h1,h2,h3⟩:=hc
 have JN:fn.body≠none:=fun e=>by rw[e]at h2;cases h2
 have JO : fn.name ≠ "runtime.NumGoroutine" := fun e => by rw [e] at h3; cases h3
 simp[execOp,ho,resolve,Act.eval,Deferred.ofValue,invoke,callFunc,program,Sem.run,h1,JN,JO]
theorem JP {g g':Nat→GM} {W:Nat→Prop} {w:World} {n:Nat} (hg:∀ b,b < n→g b=g' b):∀ {xs:List AV} {vs:List Value},bL g W w xs vs→ai n xs→bL g' W w xs vs
 | [],[],_,_=>trivial
 | _::_,_::_,h,hn=>⟨h.1.nm hn.1 hg,JP hg h.2 hn.2⟩
 | [],_::_,h,_=>h.elim
 | _::_,[],h,_=>h.elim
def Za (d:Option Nat) (xs:List TV) (gd:Option (Nat × Bool)):bq:=⟨jL gd++Xp xs,[],d.toList,[]⟩
def St.bQ (s:St) (d:Option Nat) (v:AV):St :=
 match d with
 | some d=>s.put d v
 | none=>s
def Uh (gl:Nat→AV) (s:FS) (xs:List TV) (gd:Option (Nat × Bool)):Prop:=fL s gd∧Qv (gB s gd) (aG gl s xs)
theorem QF {s:St} {d:Option Nat} {f:FuncId} {xs:List TV} {gd:Option (Nat × Bool)} {args:List AV} {r:AV} (aU:Uh c.gl s.fs xs gd) (aM:(aG c.gl s.fs xs).map Qk=args) (eM:ai 0 args)
  (dK:ob (gB s.fs gd) (PS P c.gl f args r)):Ky P c (.pd d (.call f) xs gd) s.fs (Za d xs gd) (s.bQ d (cw (gB s.fs gd) r)).fs:=by
 intro ops io he
 obtain ⟨bm,bc,hd,ys,aJ,rfl⟩:=Zt he
 obtain ⟨ts,bh⟩:=xd aJ
 have eS:(s.bQ d (cw (gB s.fs gd) r)).fs=match d with|some d=>s.fs.put d (cw (gB s.fs gd) r)|none=>s.fs:=by
  cases d with
  | none=>rfl
  | some d=>exact St.bS _ _ _
 rw[eS]
 refine ⟨fun i hi=>?_,fun b _=>by cases d<;>rfl,?_⟩
 ·cases d with
  | none=>rfl
  | some d=>show (s.fs.put d _).T i=_;rw[FS.de,if_neg (fun e=>hi (by simp[Za,e]))]
 ·intro s2 hT hH g a w hR K Q' hK
  have bn:aG c.gl s2 (ys.map aT)=aG c.gl s.fs (ys.map aT):=Yj fun i hi=>hT i (by simp[Za,hi])
  have hg:∀ t b,gd=some (t,b)→s2.T t=s.fs.T t:=fun t b e=>hT t (by simp[Za,e,jL])
  have n8:gB s2 gd=gB s.fs gd:=by
   cases gd with
   | none=>rfl
   | some p=>obtain ⟨t,b⟩:=p;simp only[gB,hg t b rfl]
  have n9:fL s2 gd:=by
   have:=aU.1
   cases gd with
   | none=>exact this
   | some p=>obtain ⟨t,b⟩:=p;simpa only[fL,hg t b rfl] using this
  have l7:∀ v w',Fr w w' (fun _=>False)→VR g (Qo c g s2) w' (cw (gB s.fs gd) r) v→K (a.put io.dst v) w':=fun v w' hf hv=>by
   rw[bc]
   have bb:=hR.grow hf
   cases d with
   | none =>
    refine hK g _ w' ?_
    have:dh s2 s.fs (Za none (ys.map aT) gd)=s2:=by unfold dh Za;simp
    simp only[this];exact bb
   | some d =>
    refine hK g _ w' ?_
    show R c g (dh s2 (s.fs.put d _) ⟨jL gd++Xp (ys.map aT),[],[d],[]⟩) _ _
    rw[wV]
    exact bb.put (by simpa using hd) hv
  unfold mq
  rw[u6 bm hR n9,n8]
  have run:(∀ b,gB s.fs gd=some b→b=true)→io.wp P a w K Q':=by
   intro hb
   have m8:Qv none (aG c.gl s2 (ys.map aT)):=by
    rw[bn]
    have:=aU.2
    cases b7:gB s.fs gd with
    | none=>rw[b7]at this;exact this
    | some b=>rw[b7]at this;exact zL (hb b b7) this
   have qm:PS P c.gl f args r:=by
    cases b7:gB s.fs gd with
    | none=>rw[b7]at dK;exact dK
    | some b=>rw[b7]at dK;exact dK (hb b b7)
   have hv:=Yp (hR.aG ys) m8
   rw[bn,aM]at hv
   have nX:bL (fun _=>.un) (Qo c g s2) w args (ys.map a.eval):=JP (n:=0) (fun b hb=>absurd hb af) hv eM
   have hX:∀ k,Qo c g s2 k→k < w.heap.size:=by
    rintro k (h|⟨b',hl,fh⟩)
    ·have:=(hR.xs k h).1;have:=hR.fr.size;omega
    ·exact BR.lt (fh ▸ hR.h b') hl
   have cN:=qm.2 w _ _ hX (fun i=>(hR.gl i)) nX
   unfold Oper.wp
   rw[xe qm.1 bh]
   rw[Oper.upon_enter]
   refine cN.mono fun e w' ⟨v,e1,e2,e3⟩=>?_
   subst e1
   refine l7 v w' e3 ?_
   have fM:VR g (Qo c g s2) w' r v:=e2.mono (Fr.refl _ _) (fun _ _ h=>h) (fun _ h=>absurd rfl h)
   cases b7:gB s.fs gd with
   | none=>exact fM
   | some b=>exact .dp (fun _=>fM) fun h=>by rw[hb b b7]at h;cases h
  cases b7:gB s.fs gd with
  | none=>simp only[Option.getD_none,if_true];exact run fun b h=>by rw[b7]at h;cases h
  | some b =>
   cases b with
   | true=>simp only[Option.getD_some,if_true];exact run fun b h=>by rw[b7]at h;cases h;rfl
   | false =>
    simp only[Option.getD_some,Bool.false_eq_true,if_false]
    refine l7 undef w (Fr.refl _ _) ?_
    rw[b7]
    exact .dp (fun h=>by cases h) fun _=>rfl
theorem Yfb {r0:List bF} {K:St→Prop} {s:St} {d:Option Nat} {f:FuncId} {xs:List TV} {gd:Option (Nat × Bool)} {args:List AV} {r:AV} (dK:ob (gB s.fs gd) (PS P c.gl f args r)) (aM:(aG c.gl s.fs xs).map Qk=args)
  (aU:Uh c.gl s.fs xs gd∧ai 0 args∧XP P c r0 K (s.bQ d (cw (gB s.fs gd) r))):Yl P c (.pd d (.call f) xs gd) r0 K s :=
 .inl ⟨_,_,QF aU.1 aM aU.2.1 dK,aU.2.2⟩
theorem Ycb {anc:List Nat} {fs:List bq} {r0:List bF} {K:St→Prop} {s:St} {d:Option Nat} {f:FuncId} {xs:List TV} {gd:Option (Nat × Bool)} {args:List AV} {r:AV} (dK:ob (gB s.fs gd) (PS P c.gl f args r)) (aM:(aG c.gl s.fs xs).map Qk=args)
  (aU:Uh c.gl s.fs xs gd∧ai 0 args∧XD P c anc r0 (Za d xs gd::fs) K (s.bQ d (cw (gB s.fs gd) r))):Zr P c anc (.pd d (.call f) xs gd) r0 fs K s :=
 ⟨_,_,QF aU.1 aM aU.2.1 dK,aU.2.2⟩
structure FT (P:Program) (f:FuncId) (fn:Func) (t:TC) (rs:List RS):Prop where
 func:P.funcs[f]?=some fn
 code:fn.body.bind (Jh P fn.ntmps)=some t
 res:m9 P fn.results.toList=some rs
 name : (fn.name == "runtime.NumGoroutine") = false
 mixed:P.follows .mixedOrders=true
def aO (P:Program) (fn:Func):TC:=(fn.body.bind (Jh P fn.ntmps)).getD .skip
theorem Yc2 {α:Type} {o:Option α} (d:α) (h:o.isSome=true):o=some (o.getD d):=by
 cases o with
 | none=>cases h
 | some x=>rfl
theorem FT.of {P : Program} {f : FuncId} {fn : Func} {rs : List RS} (h1 : P.funcs[f]? = some fn) (h2 : (fn.body.bind (Jh P fn.ntmps)).isSome = true := by kernel_rfl) (h3 : m9 P fn.results.toList = some rs := by kernel_rfl) (h4 : (fn.name == "runtime.NumGoroutine") = false := by kernel_rfl) (h5 : P.follows .mixedOrders = true := by kernel_rfl) : FT P f fn (aO P fn) rs :=
 ⟨h1,Yc2 _ h2,h3,h4,h5⟩
theorem FT.ps {gl:Nat→AV} {f:FuncId} {fn:Func} {t:TC} {rs:List RS} (hF:FT P f fn t rs) {args:List AV} {r:AV} (hN:args.length≤fn.ntmps) (eM:Qe 0 r)
  (h:∀ c:Cx,c.gh=[]→c.gl=gl→xw P c t (Ck rs r) ⟨jx 0 args,[],0⟩):PS P gl f args r:=by
 have hc:=hF.code
 cases hb:fn.body with
 | none=>rw[hb]at hc;simp at hc
 | some code =>
  rw[hb]at hc
  exact Xv3 hF.mixed hF.func hb hF.name hc hF.res hN eM h
end
def JQ (n es o:Nat):Bk→AV
 | .cells cs=>.isl n ((cs.drop o).take (n * es))
 | _=>.any
def JR (s:FS):Option Nat→Bk
 | some b=>s.H b
 | none=>.free
def JS:AV→Bool→Option Bool
 | .bool b,w=>some (b == w)
 | .dp c (.bool b),w=>some (c && (b == w))
 | _,_=>some false
def Cn:AV→Prop
 | .bool _=>True
 | .dp _ (.bool _)=>True
 | _=>False
def JT:Bk→TY→Nat→AV→Prop
 | .cells cs,ty,o,v=>zM ty cs o v
 | _,_,_,_=>False
def FK:Bk→TY→Nat→AV
 | .cells cs,ty,o=>wr ty cs o
 | _,_,_=>.any
def JU (s:FS) (ty:TY):AV→AV
 | .ptr b o=>FK (s.H b) ty o
 | _=>.any
def FL:Bk→TY→Nat→Prop
 | .cells cs,ty,o=>j6 ty cs o
 | _,_,_=>False
def JV (s:FS) (ty:TY):AV→Prop
 | .ptr b o=>FL (s.H b) ty o
 | _=>False
theorem Xic (n es o:Nat) (cs:List AV):JQ n es o (.cells cs)=.isl n ((cs.drop o).take (n * es)):=rfl
theorem Ygb (s:St) (i:Nat):s.fs.T i=look s.t i:=rfl
theorem Yg2 (s:St) (i:Nat):s.fs.H i=Qc s.h s.n i:=rfl
theorem Xoy (b:Bool):(b == true)=b:=by cases b<;>rfl
theorem Xgd (b:Bool):(b == false)=!b:=by cases b<;>rfl
theorem Ycm (b:Bool):(true != b)=!b:=by cases b<;>rfl
theorem Ycl (b:Bool):(false != b)=b:=by cases b<;>rfl
theorem Qw9 (b c:Bool):((b && c)=true→b=true)=True:=by cases b<;>simp
theorem Yeh (b:Bool):(bif b then true else false)=b:=by cases b<;>rfl
theorem Ycw (b c:Bool):(bif b then true else c)=(b || c):=by cases b<;>rfl
theorem Xyv (b c:Bool):(bif b then c else false)=(b && c):=by cases b<;>rfl
theorem FM (n j:Nat):Qc [] n j=if j < n then .dead else .free:=rfl
theorem Qyx (i:Nat) (v:Bk) (l:List (Nat × Bk)) (n j:Nat):Qc ((i,v)::l) n j=bif i == j then v else Qc l n j:=rfl
theorem Xu5 (j:Nat):look [] j=.any:=rfl
theorem Xir (i:Nat) (v:AV) (l:List (Nat × AV)) (j:Nat):look ((i,v)::l) j=bif i == j then v else look l j:=rfl
theorem Qz8 (k:IntKind) (n:Int):Qk (.int k n)=(.int k n):=rfl
theorem Xiz (g:Option Bool) (k:IntKind) (n:Int):eL g (.int k n)=True:=rfl
theorem Qts (k:IntKind) (n:Int):Ka (.int k n)=[.int k n]:=rfl
theorem Xfh (s:FS) (k:IntKind) (n:Int):Zc s (.int k n)=Yt s (.int k n):=rfl
theorem Xd3 (s:FS) (k:IntKind) (n:Int):Yt s (.int k n)=(.int k n):=rfl
theorem Xjl (s:FS) (k:IntKind) (n:Int):fC s (.int k n)=Zc s (.int k n):=rfl
theorem Xk5 (k:IntKind) (n:Int):one (.int k n)=True:=rfl
theorem Xfv (k:IntKind) (n:Int):ku (.int k n)=True:=rfl
theorem Qvs (k:IntKind) (n:Int) (r:List AV):Jv ((.int k n)::r)=none:=rfl
theorem Xgo (m:Nat) (k:IntKind) (n:Int):Qe m (.int k n)=True:=by simp only[Qe]
theorem Xpe (ρ:Nat→Nat) (k:IntKind) (n:Int):aD ρ (.int k n)=(.int k n):=by simp only[aD]
theorem Qtu (b:Bool):Qk (.bool b)=(.bool b):=rfl
theorem Xds (g:Option Bool) (b:Bool):eL g (.bool b)=True:=rfl
theorem Qsr (b:Bool):Ka (.bool b)=[.bool b]:=rfl
theorem Xap (s:FS) (b:Bool):Zc s (.bool b)=Yt s (.bool b):=rfl
theorem Qyy (s:FS) (b:Bool):Yt s (.bool b)=(.bool b):=rfl
theorem Xef (s:FS) (b:Bool):fC s (.bool b)=Zc s (.bool b):=rfl
theorem Xiq (b:Bool):one (.bool b)=True:=rfl
theorem Qym (b:Bool):ku (.bool b)=True:=rfl
theorem Qsp (b:Bool) (r:List AV):Jv ((.bool b)::r)=none:=rfl
theorem Qzw (m:Nat) (b:Bool):Qe m (.bool b)=True:=by simp only[Qe]
theorem Xeq (ρ:Nat→Nat) (b:Bool):aD ρ (.bool b)=(.bool b):=by simp only[aD]
theorem Qzo (l:List UInt8):Qk (.str l)=(.str l):=rfl
theorem Xl6 (g:Option Bool) (l:List UInt8):eL g (.str l)=True:=rfl
theorem Qvq (l:List UInt8):Ka (.str l)=[.str l]:=rfl
theorem Xdv (s:FS) (l:List UInt8):Zc s (.str l)=Yt s (.str l):=rfl
theorem Xdp (s:FS) (l:List UInt8):Yt s (.str l)=(.str l):=rfl
theorem Xli (s:FS) (l:List UInt8):fC s (.str l)=Zc s (.str l):=rfl
theorem Xof (l:List UInt8):one (.str l)=True:=rfl
theorem Xg5 (l:List UInt8):ku (.str l)=True:=rfl
theorem Qvm (l:List UInt8) (r:List AV):Jv ((.str l)::r)=none:=rfl
theorem Xe9 (m:Nat) (l:List UInt8):Qe m (.str l)=True:=by simp only[Qe]
theorem Xn0 (ρ:Nat→Nat) (l:List UInt8):aD ρ (.str l)=(.str l):=by simp only[aD]
theorem Xae (cs:List AV):Qk (.agg cs)=(.agg cs):=rfl
theorem Xpm (g:Option Bool) (cs:List AV):eL g (.agg cs)=True:=rfl
theorem Xh9 (s:FS) (cs:List AV):Yt s (.agg cs)=(.agg cs):=rfl
theorem Xk1 (s:FS) (cs:List AV):fC s (.agg cs)=Zc s (.agg cs):=rfl
theorem Qxd (cs:List AV) (r:List AV):Jv ((.agg cs)::r)=none:=rfl
theorem Qzt (cs:List AV):Qk (.aX cs)=(.aX cs):=rfl
theorem Xrf (g:Option Bool) (cs:List AV):eL g (.aX cs)=True:=rfl
theorem Qu3 (cs:List AV):Ka (.aX cs)=[.aX cs]:=rfl
theorem Xe0 (s:FS) (cs:List AV):Zc s (.aX cs)=Yt s (.aX cs):=rfl
theorem Xf9 (s:FS) (cs:List AV):Yt s (.aX cs)=(.aX cs):=rfl
theorem Qx7 (cs:List AV) (r:List AV):Jv ((.aX cs)::r)=none:=rfl
theorem Xa0 (b o:Nat):Qk (.ptr b o)=(.ptr b o):=rfl
theorem Xm1 (g:Option Bool) (b o:Nat):eL g (.ptr b o)=True:=rfl
theorem Qx2 (b o:Nat):Ka (.ptr b o)=[.ptr b o]:=rfl
theorem Xh5 (s:FS) (b o:Nat):Zc s (.ptr b o)=Yt s (.ptr b o):=rfl
theorem Xhk (s:FS) (b o:Nat):Yt s (.ptr b o)=(.ptr b o):=rfl
theorem Xpy (s:FS) (b o:Nat):fC s (.ptr b o)=Zc s (.ptr b o):=rfl
theorem Xos (b o:Nat):one (.ptr b o)=True:=rfl
theorem Xg4 (b o:Nat):ku (.ptr b o)=True:=rfl
theorem Xe8 (cs:List AV) (o:Nat):Qk (.xp cs o)=(.xp cs o):=rfl
theorem Xxg (g:Option Bool) (cs:List AV) (o:Nat):eL g (.xp cs o)=True:=rfl
theorem Qzs (cs:List AV) (o:Nat):Ka (.xp cs o)=[.xp cs o]:=rfl
theorem Xp3 (s:FS) (cs:List AV) (o:Nat):Zc s (.xp cs o)=Yt s (.xp cs o):=rfl
theorem Xkn (s:FS) (cs:List AV) (o:Nat):Yt s (.xp cs o)=(.xp cs o):=rfl
theorem Xvu (s:FS) (cs:List AV) (o:Nat):fC s (.xp cs o)=Zc s (.xp cs o):=rfl
theorem Xs6 (cs:List AV) (o:Nat):one (.xp cs o)=True:=rfl
theorem Xjk (cs:List AV) (o:Nat):ku (.xp cs o)=True:=rfl
theorem Xaf (cs:List AV) (o:Nat) (r:List AV):Jv ((.xp cs o)::r)=none:=rfl
theorem Xhj (es b o n c:Nat):Qk (.sl es b o n c)=(.sl es b o n c):=rfl
theorem Xsw (g:Option Bool) (es b o n c:Nat):eL g (.sl es b o n c)=True:=rfl
theorem Qzb (es b o n c:Nat):Ka (.sl es b o n c)=[.sl es b o n c]:=rfl
theorem Xk6 (s:FS) (es b o n c:Nat):Zc s (.sl es b o n c)=Yt s (.sl es b o n c):=rfl
theorem Xuh (s:FS) (es b o n c:Nat):fC s (.sl es b o n c)=Zc s (.sl es b o n c):=rfl
theorem Xu0 (es b o n c:Nat):one (.sl es b o n c)=True:=rfl
theorem Xr5 (es b o n c:Nat):ku (.sl es b o n c)=True:=rfl
theorem Xa2 (n:Nat) (cs:List AV):Qk (.isl n cs)=(.isl n cs):=rfl
theorem Xko (g:Option Bool) (n:Nat) (cs:List AV):eL g (.isl n cs)=True:=rfl
theorem Qv7 (n:Nat) (cs:List AV):Ka (.isl n cs)=[.isl n cs]:=rfl
theorem Xf8 (s:FS) (n:Nat) (cs:List AV):Zc s (.isl n cs)=Yt s (.isl n cs):=rfl
theorem Xd2 (s:FS) (n:Nat) (cs:List AV):Yt s (.isl n cs)=(.isl n cs):=rfl
theorem Xp7 (s:FS) (n:Nat) (cs:List AV):fC s (.isl n cs)=Zc s (.isl n cs):=rfl
theorem Xqt (n:Nat) (cs:List AV):one (.isl n cs)=True:=rfl
theorem Xe6 (n:Nat) (cs:List AV):ku (.isl n cs)=True:=rfl
theorem Qv5 (n:Nat) (cs:List AV) (r:List AV):Jv ((.isl n cs)::r)=none:=rfl
theorem Qy8:Qk .nils=.nils:=rfl
theorem Xii (g:Option Bool):eL g .nils=True:=rfl
theorem Qsm:Ka .nils=[.nils]:=rfl
theorem Qyh (s:FS):Zc s .nils=Yt s .nils:=rfl
theorem Xab (s:FS):Yt s .nils=.nils:=rfl
theorem Xi2 (s:FS):fC s .nils=Zc s .nils:=rfl
theorem Xij:one .nils=True:=rfl
theorem Xag:ku .nils=True:=rfl
theorem Qt0 (r:List AV):Jv (.nils::r)=none:=rfl
theorem Qz0 (m:Nat):Qe m .nils=True:=by simp only[Qe]
theorem Xfa (ρ:Nat→Nat):aD ρ .nils=.nils:=by simp only[aD]
theorem Xhw (f:FuncId) (cs:List AV):Qk (.cl f cs)=(.cl f cs):=rfl
theorem Xwi (g:Option Bool) (f:FuncId) (cs:List AV):eL g (.cl f cs)=True:=rfl
theorem Qz3 (f:FuncId) (cs:List AV):Ka (.cl f cs)=[.cl f cs]:=rfl
theorem Xr1 (s:FS) (f:FuncId) (cs:List AV):Zc s (.cl f cs)=Yt s (.cl f cs):=rfl
theorem Xr0 (s:FS) (f:FuncId) (cs:List AV):Yt s (.cl f cs)=(.cl f cs):=rfl
theorem Xw7 (s:FS) (f:FuncId) (cs:List AV):fC s (.cl f cs)=Zc s (.cl f cs):=rfl
theorem Xx0 (f:FuncId) (cs:List AV):one (.cl f cs)=True:=rfl
theorem Xp1 (f:FuncId) (cs:List AV):ku (.cl f cs)=True:=rfl
theorem Qz9 (f:FuncId) (cs:List AV) (r:List AV):Jv ((.cl f cs)::r)=none:=rfl
theorem Xhr (b:Nat):Qk (.mp b)=(.mp b):=rfl
theorem Xwd (g:Option Bool) (b:Nat):eL g (.mp b)=True:=rfl
theorem Xam (b:Nat):Ka (.mp b)=[.mp b]:=rfl
theorem Xm9 (s:FS) (b:Nat):Zc s (.mp b)=Yt s (.mp b):=rfl
theorem Xro (s:FS) (b:Nat):Yt s (.mp b)=(.mp b):=rfl
theorem Xud (s:FS) (b:Nat):fC s (.mp b)=Zc s (.mp b):=rfl
theorem Xvw (b:Nat):one (.mp b)=True:=rfl
theorem Xpa (b:Nat):ku (.mp b)=True:=rfl
theorem Xai (v:Value):Qk (.lit v)=(.lit v):=rfl
theorem Xqd (g:Option Bool) (v:Value):eL g (.lit v)=True:=rfl
theorem Qtr (v:Value):Ka (.lit v)=[.lit v]:=rfl
theorem Xin (s:FS) (v:Value):Zc s (.lit v)=Yt s (.lit v):=rfl
theorem Xg6 (s:FS) (v:Value):Yt s (.lit v)=(.lit v):=rfl
theorem Xo5 (s:FS) (v:Value):fC s (.lit v)=Zc s (.lit v):=rfl
theorem Qvg (v:Value) (r:List AV):Jv ((.lit v)::r)=none:=rfl
theorem Xhb (m:Nat) (v:Value):Qe m (.lit v)=True:=by simp only[Qe]
theorem Xrk (ρ:Nat→Nat) (v:Value):aD ρ (.lit v)=(.lit v):=by simp only[aD]
theorem Qzv:Qk .any=.any:=rfl
theorem Xmn (g:Option Bool):eL g .any=True:=rfl
theorem Qvp:Ka .any=[.any]:=rfl
theorem Xi7 (s:FS):Zc s .any=Yt s .any:=rfl
theorem Xik (s:FS):Yt s .any=.any:=rfl
theorem Xqy (s:FS):fC s .any=Zc s .any:=rfl
theorem Qwi (r:List AV):Jv (.any::r)=none:=rfl
theorem Xff (m:Nat):Qe m .any=True:=by simp only[Qe]
theorem Xna (ρ:Nat→Nat):aD ρ .any=.any:=by simp only[aD]
theorem Xat (b:Bool) (v:AV):Qk (.dp b v)=v:=rfl
theorem Xpq (g:Option Bool) (b:Bool) (v:AV):eL g (.dp b v)=ob g (b=true):=rfl
theorem Qud (cs:List AV):Ka (.agg cs)=cs:=rfl
theorem Xqn (s:FS) (es b o n c:Nat):Yt s (.sl es b o n c)=JQ n es o (s.H b):=by simp only[Yt,JQ]<;>(generalize s.H b=x;cases x<;>rfl)
theorem Xg3 (s:FS) (cs:List AV):Zc s (.agg cs)=.agg (cs.map (Yt s)):=rfl
theorem Xrq (s:FS) (cs:List AV):fC s (.aX cs)=.aX (cs.map (Zc s)):=rfl
theorem Xgc (cs:List AV):ku (.agg cs)=True:=rfl
theorem Xib:one (.lit (.pointer none))=True:=by simp[one,Value.oneCell']
theorem Xf0:one (.lit (.map none))=True:=by simp[one,Value.oneCell']
theorem Qwz (b o:Nat) (r:List AV):Jv (.ptr b o::r)=some b:=rfl
theorem Qyw (es b o n c:Nat) (r:List AV):Jv (.sl es b o n c::r)=some b:=rfl
theorem Qyn (b:Nat) (r:List AV):Jv (.mp b::r)=some b:=rfl
theorem Qun:Jv []=none:=rfl
theorem Xfk (s:FS) (l:List AV):qi s l=JR s (Jv l):=by simp only[qi];generalize Jv l=x;cases x<;>rfl
theorem Xa5 (s:FS) (b:Nat):JR s (some b)=s.H b:=rfl
theorem Xan (s:FS):JR s none=.free:=rfl
theorem Xpk (k:IntKind) (n:Int):bC (.int k n)=n:=rfl
theorem Xcu (b:Bool):eE (.bool b)=b:=rfl
theorem Xmy (l:List UInt8):cL (.str l)=l:=rfl
theorem Xqi (k:IntKind) (n:Int):bZ k (.int k n)=True:=by simp[bZ]
theorem Xkr (k:IntKind) (n:Int):fK (.int k n)=True:=by simp[fK]
theorem Xfm (b:Bool):ff (.bool b)=True:=by simp[ff]
theorem Xjw (l:List UInt8):fA (.str l)=True:=by simp[fA]
theorem Xn8 (p:Prop):ob none p=p:=rfl
theorem Xmb (b:Bool) (p:Prop):ob (some b) p=(b=true→p):=rfl
theorem Xm6 (v:AV):cw none v=v:=rfl
theorem Xll (b:Bool) (v:AV):cw (some b) v=.dp b v:=rfl
theorem Xqv (s:FS):gB s none=none:=rfl
theorem Xjz (s:FS) (t:Nat) (w:Bool):gB s (some (t,w))=JS (s.T t) w:=by simp only[gB];generalize s.T t=x;rcases x with _|⟨_,y⟩|_|_|_|_|_|_|_|_|_|_|_|_|_<;>first|rfl|(cases y<;>rfl)
theorem Xg1 (b w:Bool):JS (.bool b) w=some (b == w):=rfl
theorem Xji (c b w:Bool):JS (.dp c (.bool b)) w=some (c && (b == w)):=rfl
theorem Xdq (s:FS):fL s none=True:=by simp[fL]
theorem Xek (s:FS) (t:Nat) (w:Bool):fL s (some (t,w))=Cn (s.T t):=by simp only[fL];generalize s.T t=x;rcases x with _|⟨_,y⟩|_|_|_|_|_|_|_|_|_|_|_|_|_<;>first|rfl|(cases y<;>rfl)
theorem Qyo (b:Bool):Cn (.bool b)=True:=by simp[Cn]
theorem Xep (c b:Bool):Cn (.dp c (.bool b))=True:=by simp[Cn]
theorem Xlz (k:IntKind) (v:AV):wM (.int k) v=.int k (bC v):=rfl
theorem Xet (v:AV):wM .bool v=.bool (eE v):=rfl
theorem Xqo (v:AV):wM .str v=.str (cL v):=rfl
theorem Xlq (v:AV):wM .ref v=v:=rfl
theorem Xoz (k:IntKind) (v:AV):tj (.int k) v=bZ k v:=rfl
theorem Xgf (v:AV):tj .bool v=ff v:=rfl
theorem Xqz (v:AV):tj .str v=fA v:=rfl
theorem Xnp (v:AV):tj .ref v=True:=rfl
theorem Yc5 (k:SK) (cs:List AV) (o:Nat):wr (.sc k) cs o=wM k (cs.getD o .any):=rfl
theorem Yav (n:Nat) (cs:List AV) (o:Nat):wr (.ag n) cs o=.agg ((cs.drop o).take n):=rfl
theorem Xm4 (k:SK) (cs:List AV) (o:Nat):j6 (.sc k) cs o=(o < cs.length∧tj k (cs.getD o .any)):=rfl
theorem Xpw (n:Nat) (cs:List AV) (o:Nat):j6 (.ag n) cs o=(o + n≤cs.length):=rfl
theorem Xod (k:SK) (cs:List AV) (o:Nat) (v:AV):tm (.sc k) cs o v=cs.set o v:=rfl
theorem Xl2 (n:Nat) (cs:List AV) (o:Nat) (vs:List AV):tm (.ag n) cs o (.agg vs)=Yu cs o vs:=rfl
theorem Xit (k:SK) (cs:List AV) (o:Nat) (v:AV):zM (.sc k) cs o v=(o < cs.length∧one v):=rfl
theorem Xgs (n:Nat) (cs:List AV) (o:Nat) (vs:List AV):zM (.ag n) cs o (.agg vs)=(vs.length=n∧o + n≤cs.length):=rfl
theorem Xdt (s:FS) (ty:TY) (b o:Nat) (v:AV):tw s ty (.ptr b o) v=JT (s.H b) ty o v:=by simp only[tw,JT];generalize s.H b=x;cases x<;>rfl
theorem Qso (cs:List AV) (ty:TY) (o:Nat) (v:AV):JT (.cells cs) ty o v=zM ty cs o v:=rfl
theorem Xe1 (b o:Nat):jg (.ptr b o)=b:=rfl
theorem Xhq (b o:Nat):u7 (.ptr b o)=o:=rfl
theorem Qr5 (cs:List AV):Yw (.cells cs)=cs:=rfl
theorem Yeb (s:FS) (i:Nat):rv s (.t i)=s.T i:=rfl
theorem Xnh (s:FS) (a:Nat) (ty:TY):rv s (.cell a ty)=JU s ty (s.T a):=by simp only[rv];generalize s.T a=x;cases x<;>first|rfl|(simp only[JU,FK];generalize s.H _=y;cases y<;>rfl)
theorem Xr2 (s:FS) (ty:TY) (b o:Nat):JU s ty (.ptr b o)=FK (s.H b) ty o:=rfl
theorem Xac (cs:List AV) (ty:TY) (o:Nat):FK (.cells cs) ty o=wr ty cs o:=rfl
theorem Xen (v:AV):aD (rl []) v=v:=qk _ (fun _=>rfl) v
theorem QG (l:List AV):ay (rl []) l=l:=by rw[Yf];exact (List.map_congr_left fun x _=>qk _ (fun _=>rfl) x).trans (List.map_id l)
theorem Qz6 (cs:List AV):Xg (rl []) (.cells cs)=.cells cs:=by simp only[Xg,QG]
theorem Xsu (b:Nat):rl [] b=b:=rfl
theorem Xmk (i j:Nat) (r:List (Nat × Nat)) (b:Nat):rl ((i,j)::r) b=bif i == b then j else rl r b:=rfl
theorem Xmd (ρ:Nat→Nat) (cs:List AV):aD ρ (.agg cs)=.agg (ay ρ cs):=by simp only[aD]
theorem Xp4 (ρ:Nat→Nat) (cs:List AV):aD ρ (.aX cs)=.aX (ay ρ cs):=by simp only[aD]
theorem Xx9 (ρ:Nat→Nat) (cs:List AV) (o:Nat):aD ρ (.xp cs o)=.xp (ay ρ cs) o:=by simp only[aD]
theorem Xoj (ρ:Nat→Nat) (n:Nat) (cs:List AV):aD ρ (.isl n cs)=.isl n (ay ρ cs):=by simp only[aD]
theorem Xjs (ρ:Nat→Nat) (b o:Nat):aD ρ (.ptr b o)=.ptr (ρ b) o:=by simp only[aD]
theorem Xtz (ρ:Nat→Nat) (es b o n c:Nat):aD ρ (.sl es b o n c)=.sl es (ρ b) o n c:=by simp only[aD]
theorem Xsd (ρ:Nat→Nat) (b:Nat):aD ρ (.mp b)=.mp (ρ b):=by simp only[aD]
theorem Xsv (ρ:Nat→Nat) (f:FuncId) (cs:List AV):aD ρ (.cl f cs)=.cl f (ay ρ cs):=by simp only[aD]
theorem Xcs (m:Nat) (cs:List AV):Qe m (.agg cs)=ai m cs:=by simp only[Qe]
theorem Xgk (m:Nat) (cs:List AV):Qe m (.aX cs)=ai m cs:=by simp only[Qe]
theorem Xn6 (m o:Nat) (cs:List AV):Qe m (.xp cs o)=ai m cs:=by simp only[Qe]
theorem Xem (m n:Nat) (cs:List AV):Qe m (.isl n cs)=ai m cs:=by simp only[Qe]
theorem Xm2 (m f:Nat) (cs:List AV):Qe m (.cl f cs)=ai m cs:=by simp only[Qe]
theorem Xd7 (m b o:Nat):Qe m (.ptr b o)=(b < m):=by simp only[Qe]
theorem Xlv (m es b o n c:Nat):Qe m (.sl es b o n c)=(b < m):=by simp only[Qe]
theorem Xj3 (m b:Nat):Qe m (.mp b)=(b < m):=by simp only[Qe]
theorem Xh4 (s:FS):Wr s []=True:=by simp[Wr]
theorem Xu8 (s:FS) (i:Nat) (r:List RS):Wr s (.t i::r)=Wr s r:=rfl
theorem Qzr (s:FS) (a:Nat) (ty:TY) (r:List RS):Wr s (.cell a ty::r)=(JV s ty (s.T a)∧Wr s r):=by simp only[Wr];congr 1;generalize s.T a=x;cases x<;>first|rfl|(simp only[JV,FL];generalize s.H _=y;cases y<;>rfl)
theorem Qzm (s:FS) (ty:TY) (b o:Nat):JV s ty (.ptr b o)=FL (s.H b) ty o:=rfl
theorem Qt5 (cs:List AV) (ty:TY) (o:Nat):FL (.cells cs) ty o=j6 ty cs o:=rfl
theorem Xkd (s:FS) (x:RS):ga s [x]=rv s x:=rfl
theorem Xj2 (s:FS) (x y:RS) (l:List RS):ga s (x::y::l)=.aX (rv s x::rv s y::l.map (rv s)):=rfl
theorem Qza (rs:List RS) (r:AV) (s:St):Ck rs r .ret s=(Wr s.fs rs∧fC s.fs (ga s.fs rs)=r):=rfl
theorem Qqm (rs:List RS) (r:AV) (s:St):Ck rs r .normal s=(Wr s.fs rs∧fC s.fs (ga s.fs rs)=r):=rfl
theorem Qvn (rs:List RS) (r:AV) (i:Nat) (s:St):Ck rs r (.exit i) s=False:=rfl
theorem Qpp (i:Nat) (Q:EX→St→Prop) (s:St):zQ i Q .normal s=Q .normal s:=rfl
theorem Qv8 (i:Nat) (Q:EX→St→Prop) (s:St):zQ i Q .ret s=Q .ret s:=rfl
theorem Qt4 (i j:Nat) (Q:EX→St→Prop) (s:St):zQ i Q (.exit j) s=if j=i then Q .normal s else Q (.exit j) s:=rfl
theorem Qq2 {σ:Type} (I:σ→Prop) (cY:σ→St) (μ:σ→Nat) (x:σ) (Q:EX→St→Prop) (s:St):FI I cY μ x Q .normal s=∃ y,I y∧(∃ ρ,Sub (rl ρ) s (cY y))∧μ y < μ x:=rfl
theorem Qzq {σ:Type} (I:σ→Prop) (cY:σ→St) (μ:σ→Nat) (x:σ) (Q:EX→St→Prop) (s:St):FI I cY μ x Q .ret s=Q .ret s:=rfl
theorem Qy9 {σ:Type} (I:σ→Prop) (cY:σ→St) (μ:σ→Nat) (x:σ) (Q:EX→St→Prop) (i:Nat) (s:St):FI I cY μ x Q (.exit i) s=Q (.exit i) s:=rfl
theorem Xzo (gl:Nat→AV) (s:FS) (i:Nat):aZ gl s (.t i)=s.T i:=rfl
theorem Ybc (gl:Nat→AV) (s:FS) (v:AV):aZ gl s (.c v)=v:=rfl
theorem Xs3 (gl:Nat→AV) (s:FS) (i:Nat):aZ gl s (.gl i)=gl i:=rfl
theorem Xkg (gl:Nat→AV) (s:FS):aG gl s []=[]:=rfl
theorem Xhv (gl:Nat→AV) (s:FS) (x:TV) (r:List TV):aG gl s (x::r)=aZ gl s x::aG gl s r:=rfl
theorem Xau (c:Option Bool) (x y z:AV):Jk c .pick [x,y,z]=(eL c x∧ob c (eE (Qk x)=true→eL none y)∧ob c (eE (Qk x)=false→eL none z)):=rfl
theorem Xkx (c:Option Bool) (l:List AV):Jk c .mv l=Qv c l:=rfl
theorem Xgt (c:Option Bool) (l:List AV):Jk c .not l=Qv c l:=rfl
theorem Xjd (c:Option Bool) (o:BinOp) (k:IntKind) (l:List AV):Jk c (.ar o k) l=Qv c l:=rfl
theorem Xm7 (c:Option Bool) (o:BinOp) (k:IntKind) (l:List AV):Jk c (.dv o k) l=Qv c l:=rfl
theorem Xom (c:Option Bool) (o:BinOp) (k:IntKind) (l:List AV):Jk c (.bt o k) l=Qv c l:=rfl
theorem Xnr (c:Option Bool) (o:BinOp) (k:IntKind) (l:List AV):Jk c (.sh o k) l=Qv c l:=rfl
theorem Xr8 (c:Option Bool) (o:BinOp) (k:IntKind) (l:List AV):Jk c (.cm o k) l=Qv c l:=rfl
theorem Xn3 (c:Option Bool) (ne:Bool) (l:List AV):Jk c (.cB ne) l=Qv c l:=rfl
theorem Xpd (c:Option Bool) (ne:Bool) (l:List AV):Jk c (.cS ne) l=Qv c l:=rfl
theorem Xej (c:Option Bool) (l:List AV):Jk c .cat l=Qv c l:=rfl
theorem Xjt (c:Option Bool) (k:IntKind) (l:List AV):Jk c (.cv k) l=Qv c l:=rfl
theorem Xf5 (c:Option Bool) (ty:TY) (off:Nat) (l:List AV):Jk c (.zB ty off) l=Qv c l:=rfl
theorem Xd0 (c:Option Bool) (es len:Nat) (ty:TY) (l:List AV):Jk c (.u0 es len ty) l=Qv c l:=rfl
theorem Xfr (c:Option Bool) (l:List AV):Jk c .zC l=Qv c l:=rfl
theorem Qyp (c:Option Bool) (off:Nat) (l:List AV):Jk c (.jt off) l=Qv c l:=rfl
theorem Qwe (c:Option Bool) (len es:Nat) (l:List AV):Jk c (.fk len es) l=Qv c l:=rfl
theorem Qtg (c:Option Bool) (es:Nat) (l:List AV):Jk c (.fm es) l=Qv c l:=rfl
theorem Xoa (c:Option Bool) (ty:TY) (l:List AV):Jk c (.ld ty) l=Qv c l:=rfl
theorem Qyr (c:Option Bool) (l:List AV):Jk c .nU l=Qv c l:=rfl
theorem Qz5 (c:Option Bool) (l:List AV):Jk c .fW l=Qv c l:=rfl
theorem Qzk (c:Option Bool) (l:List AV):Jk c .nV l=Qv c l:=rfl
theorem Xfy (c:Option Bool) (lo hi:Bool) (l:List AV):Jk c (.zD lo hi) l=Qv c l:=rfl
theorem Xha (c:Option Bool) (es:Nat) (lo hi:Bool) (l:List AV):Jk c (.nW es lo hi) l=Qv c l:=rfl
theorem Xhl (c:Option Bool) (i:Nat) (l:List AV):Jk c (.ext i) l=Qv c l:=rfl
theorem Qvd (c:Option Bool) (l:List AV):Jk c .fX l=Qv c l:=rfl
theorem Xea (c:Option Bool) (z:List AV) (ps:List (Nat × Nat)) (l:List AV):Jk c (.wO z ps) l=Qv c l:=rfl
theorem Xhu (c:Option Bool) (f:FuncId) (l:List AV):Jk c (.zE f) l=Qv c l:=rfl
theorem Xrs (c:Option Bool) (k:IntKind) (l:List AV):Jk c (.mn k) l=Qv c l:=rfl
theorem Xps (c:Option Bool) (k:IntKind) (l:List AV):Jk c (.mx k) l=Qv c l:=rfl
theorem Qzc (c:Option Bool) (ne:Bool) (l:List AV):Jk c (.eP ne) l=Qv c l:=rfl
theorem Xdo (c:Option Bool) (l:List AV):Jk c .mZ l=Qv c l:=rfl
theorem Yc1 (x:AV) (bk:Bk):qv .mv [x] bk=x:=rfl
theorem Ya7 (x:AV) (bk:Bk):qp .mv [x] bk=True:=by simp[qp]
theorem Xve (x:AV) (bk:Bk):qv .not [x] bk=.bool (!eE x):=rfl
theorem Xtj (x:AV) (bk:Bk):qp .not [x] bk=ff x:=rfl
theorem Xnb (c x y:AV) (bk:Bk):qv .pick [c,x,y] bk=.bool (bif eE c then eE x else eE y):=rfl
theorem Xjj (c x y:AV) (bk:Bk):qp .pick [c,x,y] bk=(ff c∧(eE c=true→ff x)∧(eE c=false→ff y)):=rfl
theorem Xz1 (o:BinOp) (k:IntKind) (x y:AV) (bk:Bk):qv (.ar o k) [x,y] bk=.int k (k.wrap (wN o (bC x) (bC y))):=rfl
theorem Yby (o:BinOp) (k:IntKind) (x y:AV) (bk:Bk):qp (.ar o k) [x,y] bk=(bZ k x∧bZ k y):=rfl
theorem Ya4 (o:BinOp) (k:IntKind) (x y:AV) (bk:Bk):qv (.dv o k) [x,y] bk=.int k (zy o k (bC x) (bC y)):=rfl
theorem Xy0 (o:BinOp) (k:IntKind) (x y:AV) (bk:Bk):qp (.dv o k) [x,y] bk=(bZ k x∧bZ k y∧bC y≠0):=rfl
theorem Xzf (o:BinOp) (k:IntKind) (x y:AV) (bk:Bk):qv (.bt o k) [x,y] bk=.int k (bits o k (bC x) (bC y)):=rfl
theorem Ya6 (o:BinOp) (k:IntKind) (x y:AV) (bk:Bk):qp (.bt o k) [x,y] bk=(bZ k x∧bZ k y):=rfl
theorem Xyx (o:BinOp) (k:IntKind) (x y:AV) (bk:Bk):qv (.sh o k) [x,y] bk=.int k (zA o k (bC x) (bC y)):=rfl
theorem Yab (o:BinOp) (k:IntKind) (x y:AV) (bk:Bk):qp (.sh o k) [x,y] bk=(bZ k x∧fK y∧0≤bC y):=rfl
theorem Yaz (o:BinOp) (k:IntKind) (x y:AV) (bk:Bk):qv (.cm o k) [x,y] bk=.bool (rY o (bC x) (bC y)):=rfl
theorem Xyr (o:BinOp) (k:IntKind) (x y:AV) (bk:Bk):qp (.cm o k) [x,y] bk=(bZ k x∧bZ k y):=rfl
theorem Xyn (ne:Bool) (x y:AV) (bk:Bk):qv (.cB ne) [x,y] bk=.bool (ne != (eE x == eE y)):=rfl
theorem Xzh (ne:Bool) (x y:AV) (bk:Bk):qp (.cB ne) [x,y] bk=(ff x∧ff y):=rfl
theorem Xy4 (ne:Bool) (x y:AV) (bk:Bk):qv (.cS ne) [x,y] bk=.bool (ne != (cL x == cL y)):=rfl
theorem Xzc (ne:Bool) (x y:AV) (bk:Bk):qp (.cS ne) [x,y] bk=(fA x∧fA y):=rfl
theorem Xw6 (x y:AV) (bk:Bk):qv .cat [x,y] bk=.str (cL x++cL y):=rfl
theorem Xtv (x y:AV) (bk:Bk):qp .cat [x,y] bk=(fA x∧fA y∧(cL x).length + (cL y).length≤9223372036854775807):=rfl
theorem Xym (k:IntKind) (x:AV) (bk:Bk):qv (.cv k) [x] bk=.int k (k.wrap (bC x)):=rfl
theorem Xyi (k:IntKind) (x:AV) (bk:Bk):qp (.cv k) [x] bk=fK x:=rfl
theorem Xsk (ty:TY) (off:Nat) (cs:List AV) (bk:Bk):qv (.zB ty off) [.agg cs] bk=wr ty cs off:=rfl
theorem Xuu (ty:TY) (off:Nat) (cs:List AV) (bk:Bk):qp (.zB ty off) [.agg cs] bk=j6 ty cs off:=rfl
theorem Xw3 (es len:Nat) (ty:TY) (cs:List AV) (i:AV) (bk:Bk):qv (.u0 es len ty) [.agg cs,i] bk=wr ty cs ((bC i).toNat * es):=rfl
theorem Xwc (es len:Nat) (ty:TY) (cs:List AV) (i:AV) (bk:Bk):qp (.u0 es len ty) [.agg cs,i] bk=(fK i∧0≤bC i∧bC i < len∧j6 ty cs ((bC i).toNat * es)):=rfl
theorem Xvs (x i:AV) (bk:Bk):qv .zC [x,i] bk=.int .u8 ((cL x).getD (bC i).toNat 0).toNat:=rfl
theorem Xvi (x i:AV) (bk:Bk):qp .zC [x,i] bk=(fA x∧fK i∧0≤bC i∧bC i < (cL x).length):=rfl
theorem Xnj (o b off:Nat) (bk:Bk):qv (.jt o) [.ptr b off] bk=.ptr b (off + o):=rfl
theorem Xqr (o b off:Nat) (bk:Bk):qp (.jt o) [.ptr b off] bk=True:=by simp[qp]
theorem Xfw (o off:Nat) (cs:List AV) (bk:Bk):qv (.jt o) [.xp cs off] bk=.xp cs (off + o):=rfl
theorem Xi9 (o off:Nat) (cs:List AV) (bk:Bk):qp (.jt o) [.xp cs off] bk=True:=by simp[qp]
theorem Xfz (len es b off:Nat) (i:AV) (bk:Bk):qv (.fk len es) [.ptr b off,i] bk=.ptr b (off + (bC i).toNat * es):=rfl
theorem Xhz (len es b off:Nat) (i:AV) (bk:Bk):qp (.fk len es) [.ptr b off,i] bk=(fK i∧0≤bC i∧bC i < len):=rfl
theorem Qyu (len es off:Nat) (cs:List AV) (i:AV) (bk:Bk):qv (.fk len es) [.xp cs off,i] bk=.xp cs (off + (bC i).toNat * es):=rfl
theorem Xa9 (len es off:Nat) (cs:List AV) (i:AV) (bk:Bk):qp (.fk len es) [.xp cs off,i] bk=(fK i∧0≤bC i∧bC i < len):=rfl
theorem Xd6 (es es2 b off n c:Nat) (i:AV) (bk:Bk):qv (.fm es) [.sl es2 b off n c,i] bk=.ptr b (off + (bC i).toNat * es):=rfl
theorem Xed (es es2 b off n c:Nat) (i:AV) (bk:Bk):qp (.fm es) [.sl es2 b off n c,i] bk=(es2=es∧fK i∧0≤bC i∧bC i < n):=rfl
theorem Xah (es n:Nat) (cs:List AV) (i:AV) (bk:Bk):qv (.fm es) [.isl n cs,i] bk=.xp cs ((bC i).toNat * es):=rfl
theorem Xaa (es n:Nat) (cs:List AV) (i:AV) (bk:Bk):qp (.fm es) [.isl n cs,i] bk=(fK i∧0≤bC i∧bC i < n∧(bC i).toNat * es < cs.length):=rfl
theorem Xyc (ty:TY) (b off:Nat) (cs:List AV):qv (.ld ty) [.ptr b off] (.cells cs)=wr ty cs off:=rfl
theorem Yb1 (ty:TY) (b off:Nat) (cs:List AV):qp (.ld ty) [.ptr b off] (.cells cs)=j6 ty cs off:=rfl
theorem Xtt (ty:TY) (off:Nat) (cs:List AV) (bk:Bk):qv (.ld ty) [.xp cs off] bk=wr ty cs off:=rfl
theorem Xt8 (ty:TY) (off:Nat) (cs:List AV) (bk:Bk):qp (.ld ty) [.xp cs off] bk=j6 ty cs off:=rfl
theorem Xri (x:AV) (bk:Bk):qv .nU [x] bk=.int .i64 (cL x).length:=rfl
theorem Xpf (x:AV) (bk:Bk):qp .nU [x] bk=fA x:=rfl
theorem Xip (n:Nat) (cs:List AV) (bk:Bk):qv .fW [.isl n cs] bk=.int .i64 n:=rfl
theorem Xdk (n:Nat) (cs:List AV) (bk:Bk):qp .fW [.isl n cs] bk=True:=by simp[qp]
theorem Xia (es b o n c:Nat) (bk:Bk):qv .fW [.sl es b o n c] bk=.int .i64 n:=rfl
theorem Xg8 (es b o n c:Nat) (bk:Bk):qp .fW [.sl es b o n c] bk=True:=by simp[qp]
theorem Xg7 (bk:Bk):qv .fW [.nils] bk=.int .i64 0:=rfl
theorem Xh8 (bk:Bk):qp .fW [.nils] bk=True:=by simp[qp]
theorem Xq9 (b:Nat) (kvs:List (AV × AV)) (dn:Bool):qv .nV [.mp b] (.aE kvs dn)=.int .i64 kvs.length:=rfl
theorem Xlh (b:Nat) (kvs:List (AV × AV)) (dn:Bool):qp .nV [.mp b] (.aE kvs dn)=True:=by simp[qp]
theorem Xun (lo hi:Bool) (x:AV) (r:List AV) (bk:Bk):qv (.zD lo hi) (x::r) bk=.str (((cL x).drop (Xu lo r).toNat).take ((Jd lo hi (cL x).length r).toNat - (Xu lo r).toNat)):=rfl
theorem Xt6 (lo hi:Bool) (x:AV) (r:List AV) (bk:Bk):qp (.zD lo hi) (x::r) bk=(fA x∧l6 lo hi r∧0≤Xu lo r∧Xu lo r≤Jd lo hi (cL x).length r∧Jd lo hi (cL x).length r≤(cL x).length):=rfl
theorem Xjx (es n:Nat) (cs:List AV) (lo hi:Bool) (r:List AV) (bk:Bk):qv (.nW es lo hi) (.isl n cs::r) bk=.isl ((Jd lo hi n r).toNat - (Xu lo r).toNat) ((cs.drop ((Xu lo r).toNat * es)).take (((Jd lo hi n r).toNat - (Xu lo r).toNat) * es)):=rfl
theorem Xkm (es n:Nat) (cs:List AV) (lo hi:Bool) (r:List AV) (bk:Bk):qp (.nW es lo hi) (.isl n cs::r) bk=(l6 lo hi r∧0≤Xu lo r∧Xu lo r≤Jd lo hi n r∧Jd lo hi n r≤n∧cs.length≤n * es):=rfl
theorem Xjm {es es2 b off n c:Nat} {lo hi:Bool} {r:List AV} {bk:Bk} (h:Xu lo r < c):qv (.nW es lo hi) (.sl es2 b off n c::r) bk=.sl es b (off + (Xu lo r).toNat * es) ((Jd lo hi n r).toNat - (Xu lo r).toNat) (c - (Xu lo r).toNat):=if_pos h
theorem Xpr {es es2 b off n c:Nat} {lo hi:Bool} {r:List AV} {bk:Bk} (h:¬ Xu lo r < c):qv (.nW es lo hi) (.sl es2 b off n c::r) bk=.isl 0 []:=if_neg h
theorem Xn2 (es es2 b off n c:Nat) (lo hi:Bool) (r:List AV) (bk:Bk):qp (.nW es lo hi) (.sl es2 b off n c::r) bk=(es2=es∧l6 lo hi r∧0≤Xu lo r∧Xu lo r≤Jd lo hi n r∧Jd lo hi n r≤c):=rfl
theorem Xur (i:Nat) (vs:List AV) (bk:Bk):qv (.ext i) [.aX vs] bk=vs.getD i .any:=rfl
theorem Xvd (i:Nat) (vs:List AV) (bk:Bk):qp (.ext i) [.aX vs] bk=(i < vs.length):=rfl
theorem Xer (b o:Nat) (bk:Bk):qv .fX [.ptr b o] bk=.ptr b o:=rfl
theorem Xd4 (b o:Nat) (bk:Bk):qp .fX [.ptr b o] bk=True:=by simp[qp]
theorem Xa8 (cs:List AV) (o:Nat) (bk:Bk):qv .fX [.xp cs o] bk=.xp cs o:=rfl
theorem Qze (cs:List AV) (o:Nat) (bk:Bk):qp .fX [.xp cs o] bk=True:=by simp[qp]
theorem Xtc (z:List AV) (ps:List (Nat × Nat)) (vs:List AV) (bk:Bk):qv (.wO z ps) vs bk=.agg (Jc z ps vs):=by rcases vs with _|⟨a,_|⟨b,_|⟨c,_|⟨d,r⟩⟩⟩⟩<;>rfl
theorem Xxe (z:List AV) (ps:List (Nat × Nat)) (vs:List AV) (bk:Bk):qp (.wO z ps) vs bk=Zb z.length ps vs:=by rcases vs with _|⟨a,_|⟨b,_|⟨c,_|⟨d,r⟩⟩⟩⟩<;>rfl
theorem Xsp (f:FuncId) (vs:List AV) (bk:Bk):qv (.zE f) vs bk=.cl f vs:=by rcases vs with _|⟨a,_|⟨b,_|⟨c,_|⟨d,r⟩⟩⟩⟩<;>rfl
theorem Xsa (f:FuncId) (vs:List AV) (bk:Bk):qp (.zE f) vs bk=True:=by rcases vs with _|⟨a,_|⟨b,_|⟨c,_|⟨d,r⟩⟩⟩⟩<;>simp[qp]
theorem Yc0 (k:IntKind) (x y:AV) (bk:Bk):qv (.mn k) [x,y] bk=.int k (if bC y < bC x then bC y else bC x):=rfl
theorem Xy7 (k:IntKind) (x y:AV) (bk:Bk):qp (.mn k) [x,y] bk=(bZ k x∧bZ k y):=rfl
theorem Ybi (k:IntKind) (x y:AV) (bk:Bk):qv (.mx k) [x,y] bk=.int k (if bC y > bC x then bC y else bC x):=rfl
theorem Ya8 (k:IntKind) (x y:AV) (bk:Bk):qp (.mx k) [x,y] bk=(bZ k x∧bZ k y):=rfl
theorem Xg9 (ne:Bool) (bk:Bk):qv (.eP ne) [.lit (.pointer none)] bk=.bool (!ne):=rfl
theorem Xid (ne:Bool) (bk:Bk):qp (.eP ne) [.lit (.pointer none)] bk=True:=by simp[qp]
theorem Xfd (ne:Bool) (b o:Nat) (bk:Bk):qv (.eP ne) [.ptr b o] bk=.bool ne:=rfl
theorem Xf2 (ne:Bool) (b o:Nat) (bk:Bk):qp (.eP ne) [.ptr b o] bk=True:=by simp[qp]
theorem Xhm (ne:Bool) (cs:List AV) (o:Nat) (bk:Bk):qv (.eP ne) [.xp cs o] bk=.bool ne:=rfl
theorem Xex (ne:Bool) (cs:List AV) (o:Nat) (bk:Bk):qp (.eP ne) [.xp cs o] bk=True:=by simp[qp]
theorem Xr9 (bk:Bk):qv .mZ [.nils] bk=.str []:=rfl
theorem Xm3 (bk:Bk):qp .mZ [.nils] bk=True:=by simp[qp]
theorem Xkb (n:Nat) (cs:List AV) (bk:Bk):qv .mZ [.isl n cs] bk=.str (kS (cs.take n)):=rfl
theorem Xja (n:Nat) (cs:List AV) (bk:Bk):qp .mZ [.isl n cs] bk=(n≤cs.length∧∀ v ∈ cs.take n,bZ .u8 v):=rfl
theorem Xp8 (es b off n c:Nat) (cs:List AV):qv .mZ [.sl es b off n c] (.cells cs)=.str (kS ((cs.drop off).take n)):=rfl
theorem Xl9 (es b off n c:Nat) (cs:List AV):qp .mZ [.sl es b off n c] (.cells cs)=(es=1∧off + n≤cs.length∧∀ v ∈ (cs.drop off).take n,bZ .u8 v):=rfl
theorem Xql (x y:Int):wN .add x y=x + y:=rfl
theorem Xm5 (x y:Int):wN .sub x y=x - y:=rfl
theorem Xov (x y:Int):wN .mul x y=x * y:=rfl
theorem Xrb (x y:Int):rY .eql x y=(x == y):=rfl
theorem Xq6 (x y:Int):rY .neq x y=(x != y):=rfl
theorem Xlp (x y:Int):rY .lss x y=decide (x < y):=rfl
theorem Xml (x y:Int):rY .leq x y=decide (x≤y):=rfl
theorem Xla (x y:Int):rY .gtr x y=decide (y < x):=rfl
theorem Xr6 (x y:Int):rY .geq x y=decide (y≤x):=rfl
theorem Xnc (k:IntKind) (x y:Int):zy .quo k x y=k.wrap (x.tdiv y):=rfl
theorem Xou (k:IntKind) (x y:Int):zy .rem k x y=x.tmod y:=rfl
theorem Xo6 (k:IntKind) (x y:Int):zA .shl k x y=k.wrap (x * 2 ^ min y.toNat k.bits):=rfl
theorem Xph (k:IntKind) (x y:Int):zA .shr k x y=x.fdiv (2 ^ min y.toNat k.bits):=rfl
theorem Xlb (r:List AV):Xu false r=0:=by cases r<;>rfl
theorem Xgh (x:AV) (r:List AV):Xu true (x::r)=bC x:=rfl
theorem Xqb (lo:Bool) (n:Nat) (r:List AV):Jd lo false n r=n:=by rcases r with _|⟨a,_|⟨b,_|⟨d,r⟩⟩⟩<;>simp[Jd]
theorem Xih (n:Nat) (x:AV):Jd false true n [x]=bC x:=rfl
theorem Xdm (n:Nat) (x y:AV):Jd true true n [x,y]=bC y:=rfl
theorem Xgr:l6 false false []=True:=by simp[l6]
theorem Xpv (x:AV):l6 true false [x]=bZ .i64 x:=by simp[l6]
theorem Xl4 (x:AV):l6 false true [x]=bZ .i64 x:=by simp[l6]
theorem Xiw (x y:AV):l6 true true [x,y]=(bZ .i64 x∧bZ .i64 y):=by simp[l6]
theorem Xfc (z:List AV) (q m:Nat) (ps:List (Nat × Nat)) (r:List AV) (k:IntKind) (n:Int):Jc z ((q,m)::ps) ((.int k n)::r)=Jc (z.set q (.int k n)) ps r:=rfl
theorem Qzp (n1 q m:Nat) (ps:List (Nat × Nat)) (r:List AV) (k:IntKind) (n:Int):Zb n1 ((q,m)::ps) ((.int k n)::r)=(one (.int k n)∧m=1∧q < n1∧Zb n1 ps r):=rfl
theorem Xaq (z:List AV) (q m:Nat) (ps:List (Nat × Nat)) (r:List AV) (b:Bool):Jc z ((q,m)::ps) ((.bool b)::r)=Jc (z.set q (.bool b)) ps r:=rfl
theorem Qxo (n1 q m:Nat) (ps:List (Nat × Nat)) (r:List AV) (b:Bool):Zb n1 ((q,m)::ps) ((.bool b)::r)=(one (.bool b)∧m=1∧q < n1∧Zb n1 ps r):=rfl
theorem Xct (z:List AV) (q m:Nat) (ps:List (Nat × Nat)) (r:List AV) (l:List UInt8):Jc z ((q,m)::ps) ((.str l)::r)=Jc (z.set q (.str l)) ps r:=rfl
theorem Xas (n1 q m:Nat) (ps:List (Nat × Nat)) (r:List AV) (l:List UInt8):Zb n1 ((q,m)::ps) ((.str l)::r)=(one (.str l)∧m=1∧q < n1∧Zb n1 ps r):=rfl
theorem Xdn (z:List AV) (o m:Nat) (ps:List (Nat × Nat)) (cs r:List AV):Jc z ((o,m)::ps) (.agg cs::r)=Jc (Yu z o cs) ps r:=rfl
theorem Xar (n o m:Nat) (ps:List (Nat × Nat)) (cs r:List AV):Zb n ((o,m)::ps) (.agg cs::r)=(cs.length=m∧o + m≤n∧Zb n ps r):=rfl
theorem Xh1 (z:List AV) (q m:Nat) (ps:List (Nat × Nat)) (r:List AV) (b o:Nat):Jc z ((q,m)::ps) ((.ptr b o)::r)=Jc (z.set q (.ptr b o)) ps r:=rfl
theorem Xav (n1 q m:Nat) (ps:List (Nat × Nat)) (r:List AV) (b o:Nat):Zb n1 ((q,m)::ps) ((.ptr b o)::r)=(one (.ptr b o)∧m=1∧q < n1∧Zb n1 ps r):=rfl
theorem Xj6 (z:List AV) (q m:Nat) (ps:List (Nat × Nat)) (r:List AV) (cs:List AV) (o:Nat):Jc z ((q,m)::ps) ((.xp cs o)::r)=Jc (z.set q (.xp cs o)) ps r:=rfl
theorem Xhp (n1 q m:Nat) (ps:List (Nat × Nat)) (r:List AV) (cs:List AV) (o:Nat):Zb n1 ((q,m)::ps) ((.xp cs o)::r)=(one (.xp cs o)∧m=1∧q < n1∧Zb n1 ps r):=rfl
theorem Xkp (z:List AV) (q m:Nat) (ps:List (Nat × Nat)) (r:List AV) (es b o n c:Nat):Jc z ((q,m)::ps) ((.sl es b o n c)::r)=Jc (z.set q (.sl es b o n c)) ps r:=rfl
theorem Xdi (n1 q m:Nat) (ps:List (Nat × Nat)) (r:List AV) (es b o n c:Nat):Zb n1 ((q,m)::ps) ((.sl es b o n c)::r)=(one (.sl es b o n c)∧m=1∧q < n1∧Zb n1 ps r):=rfl
theorem Xis (z:List AV) (q m:Nat) (ps:List (Nat × Nat)) (r:List AV) (n:Nat) (cs:List AV):Jc z ((q,m)::ps) ((.isl n cs)::r)=Jc (z.set q (.isl n cs)) ps r:=rfl
theorem Qz2 (n1 q m:Nat) (ps:List (Nat × Nat)) (r:List AV) (n:Nat) (cs:List AV):Zb n1 ((q,m)::ps) ((.isl n cs)::r)=(one (.isl n cs)∧m=1∧q < n1∧Zb n1 ps r):=rfl
theorem Qzy (z:List AV) (q m:Nat) (ps:List (Nat × Nat)) (r:List AV):Jc z ((q,m)::ps) (.nils::r)=Jc (z.set q .nils) ps r:=rfl
theorem Qy5 (n1 q m:Nat) (ps:List (Nat × Nat)) (r:List AV):Zb n1 ((q,m)::ps) (.nils::r)=(one .nils∧m=1∧q < n1∧Zb n1 ps r):=rfl
theorem Xre (z:List AV) (q m:Nat) (ps:List (Nat × Nat)) (r:List AV) (f:FuncId) (cs:List AV):Jc z ((q,m)::ps) ((.cl f cs)::r)=Jc (z.set q (.cl f cs)) ps r:=rfl
theorem Xdu (n1 q m:Nat) (ps:List (Nat × Nat)) (r:List AV) (f:FuncId) (cs:List AV):Zb n1 ((q,m)::ps) ((.cl f cs)::r)=(one (.cl f cs)∧m=1∧q < n1∧Zb n1 ps r):=rfl
theorem Xp0 (z:List AV) (q m:Nat) (ps:List (Nat × Nat)) (r:List AV) (b:Nat):Jc z ((q,m)::ps) ((.mp b)::r)=Jc (z.set q (.mp b)) ps r:=rfl
theorem Xfj (n1 q m:Nat) (ps:List (Nat × Nat)) (r:List AV) (b:Nat):Zb n1 ((q,m)::ps) ((.mp b)::r)=(one (.mp b)∧m=1∧q < n1∧Zb n1 ps r):=rfl
theorem Xdj (z:List AV) (q m:Nat) (ps:List (Nat × Nat)) (r:List AV) (v:Value):Jc z ((q,m)::ps) ((.lit v)::r)=Jc (z.set q (.lit v)) ps r:=rfl
theorem Xa3 (n1 q m:Nat) (ps:List (Nat × Nat)) (r:List AV) (v:Value):Zb n1 ((q,m)::ps) ((.lit v)::r)=(one (.lit v)∧m=1∧q < n1∧Zb n1 ps r):=rfl
theorem Xg2 (z:List AV):Jc z [] []=z:=rfl
theorem Qz4 (n:Nat):Zb n [] []=True:=by simp[Zb]
attribute [go_sem] Ygb Yg2 Xic ZT ZU ZV ZW ZX ZY ZZ Z0 Z4 Z5 Z6 Z7 Xy5 Ycs Ya1 Ycg Xvt Xyq Xyo Yd8 Qzz Xjb Xta wT sf St.put St.aK St.nw St.bQ FM Qyx Xu5 Xir Qv jx Uh Xp jL si Za ai Qu oh tC bG Xg ay Sub Xoy Xgd Ycm Ycl Qw9 Yeh Ycw Xyv cond_true cond_false true_and and_true List.map_cons List.map_nil List.cons_append List.nil_append Option.toList_some Option.toList_none List.getD_cons_zero List.getD_cons_succ List.set_cons_zero List.set_cons_succ List.take_succ_cons List.take_zero List.drop_succ_cons List.drop_zero List.length_cons List.length_nil Nat.zero_add Nat.add_zero Bool.and_true Bool.true_and Bool.and_false Bool.false_and Bool.or_true Bool.true_or Bool.or_false Bool.false_or Bool.not_true Bool.not_false Bool.not_not forall_const implies_true true_implies Bool.false_eq_true false_implies imp_self Qz8 Xiz Qts Xfh Xd3 Xjl Xk5 Xfv Qvs Xgo Xpe Qtu Xds Qsr Xap Qyy Xef Xiq Qym Qsp Qzw Xeq Qzo Xl6 Qvq Xdv Xdp Xli Xof Xg5 Qvm Xe9 Xn0 Xae Xpm Xh9 Xk1 Qxd Qzt Xrf Qu3 Xe0 Xf9 Qx7 Xa0 Xm1 Qx2 Xh5 Xhk Xpy Xos Xg4 Xe8 Xxg Qzs Xp3 Xkn Xvu Xs6 Xjk Xaf Xhj Xsw Qzb Xk6 Xuh Xu0 Xr5 Xa2 Xko Qv7 Xf8 Xd2 Xp7 Xqt Xe6 Qv5 Qy8 Xii Qsm Qyh Xab Xi2 Xij Xag Qt0 Qz0 Xfa Xhw Xwi Qz3 Xr1 Xr0 Xw7 Xx0 Xp1 Qz9 Xhr Xwd Xam Xm9 Xro Xud Xvw Xpa Xai Xqd Qtr Xin Xg6 Xo5 Qvg Xhb Xrk Qzv Xmn Qvp Xi7 Xik Xqy Qwi Xff Xna Xat Xpq Qud Xqn Xg3 Xrq Xgc Xib Xf0 Qwz Qyw Qyn Qun Xfk Xa5 Xan Xpk Xcu Xmy Xqi Xkr Xfm Xjw Xn8 Xmb Xm6 Xll Xqv Xjz Xg1 Xji Xdq Xek Qyo Xep Xlz Xet Xqo Xlq Xoz Xgf Xqz Xnp Yc5 Yav Xm4 Xpw Xod Xl2 Xit Xgs Xdt Qso Xe1 Xhq Qr5 Yeb Xnh Xr2 Xac Xen QG Qz6 Xsu Xmk Xmd Xp4 Xx9 Xoj Xjs Xtz Xsd Xsv Xcs Xgk Xn6 Xem Xm2 Xd7 Xlv Xj3 Xh4 Xu8 Qzr Qzm Qt5 Xkd Xj2 Qza Qqm Qvn Qpp Qv8 Qt4 Qq2 Qzq Qy9 Xzo Ybc Xs3 Xkg Xhv Xau Xkx Xgt Xjd Xm7 Xom Xnr Xr8 Xn3 Xpd Xej Xjt Xf5 Xd0 Xfr Qyp Qwe Qtg Xoa Qyr Qz5 Qzk Xfy Xha Xhl Qvd Xea Xhu Xrs Xps Qzc Xdo Yc1 Ya7 Xve Xtj Xnb Xjj Xz1 Yby Ya4 Xy0 Xzf Ya6 Xyx Yab Yaz Xyr Xyn Xzh Xy4 Xzc Xw6 Xtv Xym Xyi Xsk Xuu Xw3 Xwc Xvs Xvi Xnj Xqr Xfw Xi9 Xfz Xhz Qyu Xa9 Xd6 Xed Xah Xaa Xyc Yb1 Xtt Xt8 Xri Xpf Xip Xdk Xia Xg8 Xg7 Xh8 Xq9 Xlh Xun Xt6 Xjx Xkm Xjm Xpr Xn2 Xur Xvd Xer Xd4 Xa8 Qze Xtc Xxe Xsp Xsa Yc0 Xy7 Ybi Ya8 Xg9 Xid Xfd Xf2 Xhm Xex Xr9 Xm3 Xkb Xja Xp8 Xl9 Xql Xm5 Xov Xrb Xq6 Xlp Xml Xla Xr6 Xnc Xou Xo6 Xph Xlb Xgh Xqb Xih Xdm Xgr Xpv Xl4 Xiw Xfc Qzp Xaq Qxo Xct Xas Xdn Xar Xh1 Xav Xj6 Xhp Xkp Xdi Xis Qz2 Qzy Qy5 Xre Xdu Xp0 Xfj Xdj Xa3 Xg2 Qz4
def Qp (l:List Int):List AV:=l.map (.int .i64)
def Zh (l:List Bool):List AV:=l.map .bool
def Xo (l:List UInt8):List AV:=l.map fun (b:UInt8)=>.int .u8 b.toNat
theorem Ye (l:List Int):(Qp l).length=l.length:=by simp[Qp]
theorem Xoc (l:List Bool):(Zh l).length=l.length:=by simp[Zh]
theorem QH (l:List UInt8):(Xo l).length=l.length:=by simp[Xo]
theorem zU {l:List Int} {i:Nat} (h:i < l.length):(Qp l).getD i .any=.int .i64 (l.getD i 0):=by simp[Qp,List.getD,h]
theorem JW {l:List Bool} {i:Nat} (h:i < l.length):(Zh l).getD i .any=.bool (l.getD i false):=by simp[Zh,List.getD,h]
theorem QI {l:List UInt8} {i:Nat} (h:i < l.length):(Xo l).getD i .any=.int .u8 (l.getD i 0).toNat:=by simp[Xo,List.getD,h]
theorem Xpt (l:List Int) (n:Nat):(Qp l).take n=Qp (l.take n):=by simp[Qp,List.map_take]
theorem Xlu (l:List Int) (n:Nat):(Qp l).drop n=Qp (l.drop n):=by simp[Qp,List.map_drop]
theorem Xkk (l:List UInt8) (n:Nat):(Xo l).take n=Xo (l.take n):=by simp[Xo,List.map_take]
theorem Xjh (l:List UInt8) (n:Nat):(Xo l).drop n=Xo (l.drop n):=by simp[Xo,List.map_drop]
theorem Xcw (l:List Bool) (n:Nat):(Zh l).take n=Zh (l.take n):=by simp[Zh,List.map_take]
theorem Xdz (l:List Bool) (n:Nat):(Zh l).drop n=Zh (l.drop n):=by simp[Zh,List.map_drop]
theorem Xus (l m:List Int):Qp l++Qp m=Qp (l++m):=by simp[Qp]
theorem Xtf (l m:List UInt8):Xo l++Xo m=Xo (l++m):=by simp[Xo]
theorem Xjg {α:Type} {l:List α} {b j:Nat} {d:α} (h:j < b):(l.take b).getD j d=l.getD j d:=by simp only[List.getD,List.getElem?_take,if_pos h]
theorem Xm8 {α:Type} {l:List α} {a j:Nat} {d:α}:(l.drop a).getD j d=l.getD (a + j) d:=by simp only[List.getD,List.getElem?_drop]
theorem xf {α:Type} {l:List α} {i j:Nat} {v d:α} (h:i < l.length):(l.set i v).getD j d=if i=j then v else l.getD j d:=by
 simp only[List.getD,List.getElem?_set]
 split
 ·next e=>subst e;simp[h]
 ·rfl
theorem Xwh {α:Type} {l:List α} {n:Nat} (h:l.length≤n):l.take n=l:=List.take_of_length_le h
theorem Xg0 {l r:List AV} {i:Nat} (h:i < l.length):(l++r).getD i .any=l.getD i .any:=by simp only[List.getD];rw[List.getElem?_append_left h]
theorem Xjf {l r:List AV} {i:Nat} {v:AV} (h:i < l.length):(l++r).set i v=l.set i v++r:=by rw[List.set_append,if_pos h]
theorem Ydq (b:Bool):(b=false→(!b)=true)=True:=by cases b<;>simp
theorem Yc7 (b:Bool):((!b)=true→b=false)=True:=by cases b<;>simp
theorem zV (ρ:Nat→Nat) (l:List Int):ay ρ (Qp l)=Qp l:=by rw[Yf];simp[Qp,aD]
theorem Xmv (ρ:Nat→Nat) (l:List UInt8):ay ρ (Xo l)=Xo l:=by rw[Yf];simp[Xo,aD]
theorem QJ (ρ:Nat→Nat) (l:List Bool):ay ρ (Zh l)=Zh l:=by rw[Yf];simp[Zh,aD]
theorem Co (ρ:Nat→Nat) (l m:List AV):ay ρ (l++m)=ay ρ l++ay ρ m:=by simp[Yf]
theorem Xrz (l:List Int) (i:Nat) (n:Int):(Qp l).set i (.int .i64 n)=Qp (l.set i n):=by simp[Qp,List.map_set]
theorem Xnl (l:List Bool) (i:Nat) (n:Bool):(Zh l).set i (.bool n)=Zh (l.set i n):=by simp[Zh,List.map_set]
theorem QK {l:List AV} {a b j:Nat} (h:j < b):((l.drop a).take b).getD j .any=l.getD (a + j) .any:=by simp only[List.getD,List.getElem?_take,List.getElem?_drop,if_pos h]
theorem Xsq {l:List AV} {b j:Nat} (h:j < b):(l.take b).getD j .any=l.getD j .any:=by simp only[List.getD,List.getElem?_take,if_pos h]
theorem Xwz {l:List AV} {a j:Nat}:(l.drop a).getD j .any=l.getD (a + j) .any:=by simp only[List.getD,List.getElem?_drop]
theorem Ybk {l:List AV} {a b:Nat} (h:a + b≤l.length):((l.drop a).take b).length=b:=by simp;omega
theorem Xtu {l:List AV} {b:Nat} (h:b≤l.length):(l.take b).length=b:=by simp;omega
theorem Xmh {cs vs:List AV} (h:cs.length=vs.length):Yu cs 0 vs=vs:=by unfold Yu;simp[h]
theorem Xuv (cs:List AV) (o:Nat):Yu cs o []=cs:=by unfold Yu;simp
theorem Xle (c v:AV) (cs vs:List AV):Yu (c::cs) 0 (v::vs)=v::Yu cs 0 vs:=by unfold Yu;simp
theorem Xow (c:AV) (cs vs:List AV) (o:Nat):Yu (c::cs) (o + 1) vs=c::Yu cs o vs:=by unfold Yu;simp[Nat.add_right_comm]
theorem Xk8 {cs vs:List AV} {o:Nat} (h:o + vs.length≤cs.length):(Yu cs o vs).length=cs.length:=by unfold Yu;simp;omega
theorem FN (n:Nat) (l:List Int):ai n (Qp l)=True:=eq_true (Xj.2 fun x hx=>by simp[Qp]at hx;obtain ⟨a,_,rfl⟩:=hx;simp[Qe])
theorem QL (n:Nat) (l:List Bool):ai n (Zh l)=True:=eq_true (Xj.2 fun x hx=>by simp[Zh]at hx;rcases hx with ⟨_,rfl⟩|⟨_,rfl⟩<;>simp[Qe])
theorem Xzr (n:Nat) (l:List UInt8):ai n (Xo l)=True:=eq_true (Xj.2 fun x hx=>by simp[Xo]at hx;obtain ⟨a,_,rfl⟩:=hx;simp[Qe])
theorem Cp (n:Nat) (l m:List AV):ai n (l++m)=(ai n l∧ai n m):=by simp only[Xj,List.mem_append,eq_iff_iff];exact ⟨fun h=>⟨fun x hx=>h x (.inl hx),fun x hx=>h x (.inr hx)⟩,fun h x hx=>hx.elim (h.1 x) (h.2 x)⟩
theorem Xt7 (l:List UInt8):kS (Xo l)=l:=by
 simp only[kS,Xo,List.map_map]
 conv=>rhs;rw[← List.map_id l]
 refine List.map_congr_left fun b _=>?_
 simp[bC]
theorem Yb9 (l:List UInt8):∀ v ∈ Xo l,bZ .u8 v:=fun v hv=>by simp[Xo]at hv;obtain ⟨a,_,rfl⟩:=hv;simp[bZ]
theorem Xvq (l:List UInt8):(∀ v ∈ Xo l,bZ .u8 v)=True:=eq_true (Yb9 l)
theorem JX (s:FS) (l:List Int):(Qp l).map (Yt s)=Qp l:=by simp[Qp,Yt]
theorem QM (s:FS) (l:List Bool):(Zh l).map (Yt s)=Zh l:=by simp[Zh,Yt]
theorem wrap_i64 {n:Int} (h0:-9223372036854775808≤n) (h1:n < 9223372036854775808):IntKind.i64.wrap n=n:=by rw[IntKind.wrap_i64];omega
theorem wrap_u32 {n:Int} (h0:0≤n) (h1:n < 4294967296):IntKind.u32.wrap n=n:=by rw[IntKind.wrap_u32];omega
theorem wrap_u8 {n:Int} (h0:0≤n) (h1:n < 256):IntKind.u8.wrap n=n:=by rw[IntKind.wrap_u8];omega
theorem Xwe {n:Int} (h0:0≤n) (h1:n < 18446744073709551616):IntKind.u64.wrap n=n:=by simp[IntKind.wrap,IntKind.bits,IntKind.signed];omega
theorem Yf7:((0:Nat):Int)=0:=rfl
theorem Yfa (n:Nat):((no_index (OfNat.ofNat n):Nat):Int)=OfNat.ofNat n:=rfl
theorem Yfd {P:Program} {c:Cx} {Q:EX→St→Prop} {s:St} {x:TV} {a b:TC} {t:Bool} (h:aZ c.gl s.fs x=.bool t) (ht:t=true→xw P c a Q s) (hf:t=false→xw P c b Q s):xw P c (.cond x a b) Q s:=by
 rw[Yb8,h]
 exact ⟨trivial,ht,hf⟩
attribute [go_sem] Ye Xoc QH zU JW QI Xpt Xlu Xkk Xjh Xcw Xdz Xjg Xm8 Xg0 Xjf Xwh Ydq Yc7 zV Xmv QJ Co List.take_take Nat.min_self Nat.mul_one Nat.one_mul Xrz Xnl QK Xsq Xwz Ybk Xtu Xmh Xuv Xle Xow Xk8 FN QL Xzr Cp Xt7 Xvq JX QM wrap_i64 wrap_u32 wrap_u8 Xwe Int.toNat_natCast Yf7 Yfa AV.int.injEq AV.bool.injEq AV.str.injEq AV.agg.injEq AV.aX.injEq AV.isl.injEq AV.sl.injEq AV.ptr.injEq AV.xp.injEq Bk.cells.injEq
section
variable {P:Program}
def jN (P:Program) (c:Cx) (k:PK) (vs:List AV) (r:AV):Prop :=
 ∀ (o:Oper) (ys:List Operand),Yh P o=some (k,ys)→∀ (g:Nat→GM) (W:Nat→Prop) (a:Act) (w:World),(∀ i,W i→i < w.heap.size)→(∀ i,VR (fun _=>.un) W w (c.gl i) (.pointer (some ⟨i,0,none⟩)))→bL g W w vs (ys.map a.eval) →
  ∀ (K:Act→World→Prop) (Q:Exit→Act→World→Prop),(∀ v w',Fr w w' (fun _=>False)→VR g W w' r v→K (a.put o.dst v) w')→o.wp P a w K Q
theorem QN {c:Cx} {s:St} {d:Option Nat} {k:PK} {xs:List TV} {gd:Option (Nat × Bool)} {args:List AV} {r:AV} (aU:Uh c.gl s.fs xs gd) (aM:(aG c.gl s.fs xs).map Qk=args)
  (hq:ob (gB s.fs gd) (jN P c k args r)):Ky P c (.pd d k xs gd) s.fs (Za d xs gd) (s.bQ d (cw (gB s.fs gd) r)).fs:=by
 intro ops io he
 obtain ⟨bm,bc,hd,ys,aJ,rfl⟩:=Zt he
 have eS:(s.bQ d (cw (gB s.fs gd) r)).fs=match d with|some d=>s.fs.put d (cw (gB s.fs gd) r)|none=>s.fs:=by
  cases d with
  | none=>rfl
  | some d=>exact St.bS _ _ _
 rw[eS]
 refine ⟨fun i hi=>?_,fun b _=>by cases d<;>rfl,?_⟩
 ·cases d with
  | none=>rfl
  | some d=>show (s.fs.put d _).T i=_;rw[FS.de,if_neg (fun e=>hi (by simp[Za,e]))]
 ·intro s2 hT hH g a w hR K Q' hK
  have bn:aG c.gl s2 (ys.map aT)=aG c.gl s.fs (ys.map aT):=Yj fun i hi=>hT i (by simp[Za,hi])
  have hg:∀ t b,gd=some (t,b)→s2.T t=s.fs.T t:=fun t b e=>hT t (by simp[Za,e,jL])
  have n8:gB s2 gd=gB s.fs gd:=by
   cases gd with
   | none=>rfl
   | some p=>obtain ⟨t,b⟩:=p;simp only[gB,hg t b rfl]
  have n9:fL s2 gd:=by
   have:=aU.1
   cases gd with
   | none=>exact this
   | some p=>obtain ⟨t,b⟩:=p;simpa only[fL,hg t b rfl] using this
  have l7:∀ v w',Fr w w' (fun _=>False)→VR g (Qo c g s2) w' (cw (gB s.fs gd) r) v→K (a.put io.dst v) w':=fun v w' hf hv=>by
   rw[bc]
   have bb:=hR.grow hf
   cases d with
   | none =>
    refine hK g _ w' ?_
    have:dh s2 s.fs (Za none (ys.map aT) gd)=s2:=by unfold dh Za;simp
    simp only[this];exact bb
   | some d =>
    refine hK g _ w' ?_
    show R c g (dh s2 (s.fs.put d _) ⟨jL gd++Xp (ys.map aT),[],[d],[]⟩) _ _
    rw[wV]
    exact bb.put (by simpa using hd) hv
  unfold mq
  rw[u6 bm hR n9,n8]
  have run:(∀ b,gB s.fs gd=some b→b=true)→io.wp P a w K Q':=by
   intro hb
   have m8:Qv none (aG c.gl s2 (ys.map aT)):=by
    rw[bn]
    have:=aU.2
    cases b7:gB s.fs gd with
    | none=>rw[b7]at this;exact this
    | some b=>rw[b7]at this;exact zL (hb b b7) this
   have cF:jN P c k args r:=by
    cases b7:gB s.fs gd with
    | none=>rw[b7]at hq;exact hq
    | some b=>rw[b7]at hq;exact hq (hb b b7)
   have hv:=Yp (hR.aG ys) m8
   rw[bn,aM]at hv
   have hX:∀ k,Qo c g s2 k→k < w.heap.size:=by
    rintro k (h|⟨b',hl,fh⟩)
    ·have:=(hR.xs k h).1;have:=hR.fr.size;omega
    ·exact BR.lt (fh ▸ hR.h b') hl
   refine cF io ys aJ g _ a w hX (fun i=>(hR.gl i)) hv K Q' fun v w' hf fM=>?_
   refine l7 v w' hf ?_
   cases b7:gB s.fs gd with
   | none=>exact fM
   | some b=>exact .dp (fun _=>fM) fun h=>by rw[hb b b7]at h;cases h
  cases b7:gB s.fs gd with
  | none=>simp only[Option.getD_none,if_true];exact run fun b h=>by rw[b7]at h;cases h
  | some b =>
   cases b with
   | true=>simp only[Option.getD_some,if_true];exact run fun b h=>by rw[b7]at h;cases h;rfl
   | false =>
    simp only[Option.getD_some,Bool.false_eq_true,if_false]
    refine l7 undef w (Fr.refl _ _) ?_
    rw[b7]
    exact .dp (fun h=>by cases h) fun _=>rfl
theorem Ya0 {c:Cx} {r0:List bF} {K:St→Prop} {s:St} {d:Option Nat} {k:PK} {xs:List TV} {gd:Option (Nat × Bool)} {args:List AV} {r:AV} (hq:ob (gB s.fs gd) (jN P c k args r)) (aM:(aG c.gl s.fs xs).map Qk=args)
  (aU:Uh c.gl s.fs xs gd∧XP P c r0 K (s.bQ d (cw (gB s.fs gd) r))):Yl P c (.pd d k xs gd) r0 K s :=
 .inl ⟨_,_,QN aU.1 aM hq,aU.2⟩
theorem Xwg {c:Cx} {anc:List Nat} {fs:List bq} {r0:List bF} {K:St→Prop} {s:St} {d:Option Nat} {k:PK} {xs:List TV} {gd:Option (Nat × Bool)} {args:List AV} {r:AV} (hq:ob (gB s.fs gd) (jN P c k args r)) (aM:(aG c.gl s.fs xs).map Qk=args)
  (aU:Uh c.gl s.fs xs gd∧XD P c anc r0 (Za d xs gd::fs) K (s.bQ d (cw (gB s.fs gd) r))):Zr P c anc (.pd d k xs gd) r0 fs K s :=
 ⟨_,_,QN aU.1 aM hq,aU.2⟩
theorem xg {o:Option Bool} {p:Prop} (h:p):ob o p:=by cases o<;>first|exact h|exact fun _=>h
theorem Yx {c:Cx} {r0:List bF} {K:St→Prop} {s:St} {d:Option Nat} {f:FuncId} {xs:List TV} {gd:Option (Nat × Bool)} {args:List AV} {r:AV} (aM:(aG c.gl s.fs xs).map Qk=args) (dK:PS P c.gl f args r)
  (aU:Uh c.gl s.fs xs gd∧ai 0 args∧XP P c r0 K (s.bQ d (cw (gB s.fs gd) r))):Yl P c (.pd d (.call f) xs gd) r0 K s:=Yfb (xg dK) aM aU
theorem Ym {c:Cx} {anc:List Nat} {fs:List bq} {r0:List bF} {K:St→Prop} {s:St} {d:Option Nat} {f:FuncId} {xs:List TV} {gd:Option (Nat × Bool)} {args:List AV} {r:AV} (aM:(aG c.gl s.fs xs).map Qk=args) (dK:PS P c.gl f args r)
  (aU:Uh c.gl s.fs xs gd∧ai 0 args∧XD P c anc r0 (Za d xs gd::fs) K (s.bQ d (cw (gB s.fs gd) r))):Zr P c anc (.pd d (.call f) xs gd) r0 fs K s:=Ycb (xg dK) aM aU
theorem Xz {c:Cx} {r0:List bF} {K:St→Prop} {s:St} {d:Option Nat} {k:PK} {xs:List TV} {gd:Option (Nat × Bool)} {args:List AV} {r:AV} (aM:(aG c.gl s.fs xs).map Qk=args) (hq:jN P c k args r)
  (aU:Uh c.gl s.fs xs gd∧XP P c r0 K (s.bQ d (cw (gB s.fs gd) r))):Yl P c (.pd d k xs gd) r0 K s:=Ya0 (xg hq) aM aU
theorem Xs {c:Cx} {anc:List Nat} {fs:List bq} {r0:List bF} {K:St→Prop} {s:St} {d:Option Nat} {k:PK} {xs:List TV} {gd:Option (Nat × Bool)} {args:List AV} {r:AV} (aM:(aG c.gl s.fs xs).map Qk=args) (hq:jN P c k args r)
  (aU:Uh c.gl s.fs xs gd∧XD P c anc r0 (Za d xs gd::fs) K (s.bQ d (cw (gB s.fs gd) r))):Zr P c anc (.pd d k xs gd) r0 fs K s:=Xwg (xg hq) aM aU
def zW (rec:TypeId→Option (List SK)) (P:Program):Nat→List Field→Option (List SK)
 | _,[]=>some []
 | o, f :: fs => if f.name = "_" ∨ f.offset ≠ o ∨ (P.info? f.type).isNone then none else (rec f.type).bind fun ks => if P.cellsOf f.type = ks.length then (zW rec P (o + ks.length) fs).map (ks ++ ·) else none
def jh (P:Program):Nat→TypeId→Option (List SK)
 | 0,_=>none
 | d + 1,t=>match P.underlying t with
  | some .bool=>some [.bool]
  | some (.int k)=>some [.int k]
  | some .string=>some [.str]
  | some (.struct fs)=>if P.stoodInHeld t then none else zW (jh P d) P 0 fs.toList
  | some (.array n e)=>if (P.info? e).isNone then none else (jh P d e).bind fun ks=>if P.cellsOf e=ks.length then some (List.replicate n ks).flatten else none
  | _=>none
def Cq:SK→Value→Value→Bool
 | .int _,.int _ a,.int _ b=>a == b
 | .bool,.bool a,.bool b=>a == b
 | .str,.string a,.string b=>a.toList == b.toList
 | _,_,_=>true
def Ycr:SK→Value→Prop
 | .int k,v=>∃ n,v=.int k n
 | .bool,v=>∃ b,v=.bool b
 | .str,v=>∃ b,v=.string b
 | .ref,_=>False
def Jr:List SK→List Value→List Value→Bool
 | k::ks,u::us,v::vs=>Cq k u v && Jr ks us vs
 | _,_,_=>true
def kx:List SK→List Value→Prop
 | k::ks,u::us=>Ycr k u∧kx ks us
 | [],_=>True
 | _::_,[]=>False
theorem ve:∀ (ks ls:List SK) (us:List Value),kx (ks++ls) us→kx ks us∧kx ls (us.drop ks.length)
 | [],_,us,h=>⟨by cases us<;>trivial,by simpa using h⟩
 | _::ks,ls,[],h=>h.elim
 | _::ks,ls,_::us,h=>⟨⟨h.1,(ve ks ls us h.2).1⟩,by simpa using (ve ks ls us h.2).2⟩
theorem vf:∀ (ks:List SK) (us:List Value),kx ks us→ks.length≤us.length
 | [],_,_=>by simp
 | _::_,[],h=>h.elim
 | _::ks,_::us,h=>by have:=vf ks us h.2;simp;omega
theorem JY:∀ (ks ls:List SK) (us vs:List Value),ks.length≤us.length→ks.length≤vs.length→Jr (ks++ls) us vs=(Jr ks us vs && Jr ls (us.drop ks.length) (vs.drop ks.length))
 | [],_,_,_,_,_=>by simp[Jr]
 | _::_,_,[],_,h,_=>by simp at h
 | _::_,_,_::_,[],_,h=>by simp at h
 | k::ks,ls,u::us,v::vs,h1,h2=>by
  simp only[List.length_cons]at h1 h2
  simp[Jr,JY ks ls us vs af af,Bool.and_assoc]
theorem xh:∀ (ks:List SK) (us:List Value),kx ks us→kx ks (us.take ks.length)
 | [],us,_=>by cases us<;>trivial
 | _::_,[],h=>h.elim
 | k::ks,u::us,h=>⟨h.1,xh ks us h.2⟩
theorem JZ:∀ (ks:List SK) (us vs:List Value),Jr ks (us.take ks.length) (vs.take ks.length)=Jr ks us vs
 | [],_,_=>by simp[Jr]
 | _::_,[],_=>by simp[Jr]
 | _::_,_::_,[]=>by simp[Jr]
 | k::ks,u::us,v::vs=>by simp[Jr,JZ ks us vs]
def Wy (P:Program) (t:TypeId) (x:Value) (us:List Value):Prop :=
 match P.underlying t with
 | some (.struct _)=>x=.agg us.toArray
 | some (.array _ _)=>x=.agg us.toArray
 | _=>us=[x]
theorem zX (w:World) {m:Nat} {e:TypeId} {ks:List SK} (h:jh P m e=some ks) (hi:(P.info? e).isSome) (hc:P.cellsOf e=ks.length) {xs:Array Value} {o:Nat} (hr:kx ks (xs.toList.drop o)) :
  ∃ a,(part e xs o).run P w=.ok a w∧Wy P e a ((xs.toList.drop o).take ks.length):=by
 obtain ⟨i,hi⟩:=Option.isSome_iff_exists.1 hi
 cases m with
 | zero=>cases h
 | succ m =>
  have one:∀ k,ks=[k]→∃ v,xs[o]?=some v∧(xs.toList.drop o).take ks.length=[v]:=by
   rintro k rfl
   have hl:=vf _ _ hr
   cases hd:xs.toList.drop o with
   | nil=>rw[hd]at hl;simp at hl
   | cons v r =>
    refine ⟨v,?_,by simp⟩
    have:(xs.toList.drop o)[0]?=some v:=by rw[hd];rfl
    simpa using this
  have agg:(xs.extract o (o + P.cellsOf e)).toList=(xs.toList.drop o).take ks.length:=by
   rw[Array.toList_extract,hc];simp[List.extract]
  unfold jh at h
  cases hu:P.underlying e with
  | none=>simp[hu]at h
  | some kd =>
   rw[hu]at h
   cases kd<;>simp at h
   case bool=>obtain ⟨v,h1,h2⟩:=one _ h.symm;exact ⟨v,by simp[part,isAgg,run_underlying hu,h1],by simp only[Wy,hu];exact h2⟩
   case int k=>obtain ⟨v,h1,h2⟩:=one _ h.symm;exact ⟨v,by simp[part,isAgg,run_underlying hu,h1],by simp only[Wy,hu];exact h2⟩
   case string=>obtain ⟨v,h1,h2⟩:=one _ h.symm;exact ⟨v,by simp[part,isAgg,run_underlying hu,h1],by simp only[Wy,hu];exact h2⟩
   case struct fs=>exact ⟨.agg (xs.extract o (o + P.cellsOf e)),by simp[part,isAgg,run_underlying hu,run_sizeOf w hi],by simp only[Wy,hu];rw[← agg]⟩
   case array n e'=>exact ⟨.agg (xs.extract o (o + P.cellsOf e)),by simp[part,isAgg,run_underlying hu,run_sizeOf w hi],by simp only[Wy,hu];rw[← agg]⟩
theorem FO {α:Type} {x:Option α} (h:¬ x.isNone=true):x.isSome=true:=by cases x<;>simp_all
def J0 (P:Program) (D:Nat) (t:TypeId) (ks:List SK):Prop :=
 ∀ (w:World) (x y:Value) (us vs:List Value),Wy P t x us→Wy P t y vs→us.length=ks.length→vs.length=ks.length→kx ks us→kx ks vs→(Op.equalIn D t x y).run P w=.ok (Jr ks us vs) w
theorem QO {m D:Nat} (IH:∀ t ks,jh P m t=some ks→J0 P D t ks):∀ (fs:List Field) (o:Nat) (ks:List SK),zW (jh P m) P o fs=some ks→∀ (w:World) (xs ys:Array Value),kx ks (xs.toList.drop o)→kx ks (ys.toList.drop o) →
  (Op.eqFields D xs ys fs).run P w=.ok (Jr ks (xs.toList.drop o) (ys.toList.drop o)) w
 | [],o,ks,h,w,xs,ys,_,_=>by cases h;simp[Op.eqFields,Jr]
 | f::fs,o,ks,h,w,xs,ys,hx,hy=>by
  unfold zW at h
  split at h
  ·cases h
  ·rename_i hn
   simp only[not_or,Decidable.not_not]at hn
   obtain ⟨dQ,dY,mB⟩:=hn
   have nf:=FO mB
   simp only[Option.bind_eq_some_iff]at h
   obtain ⟨k1,h1,h2⟩:=h
   split at h2
   ·rename_i hc
    simp only[Option.map_eq_some_iff]at h2
    obtain ⟨k2,h2,rfl⟩:=h2
    obtain ⟨x1,x2⟩:=ve _ _ _ hx
    obtain ⟨y1,y2⟩:=ve _ _ _ hy
    obtain ⟨a,pa,ha⟩:=zX w h1 nf hc x1
    obtain ⟨b,pb,hb⟩:=zX w h1 nf hc y1
    have lx:=vf _ _ x1
    have ly:=vf _ _ y1
    have hr:=IH _ _ h1 w a b _ _ ha hb (by rw[List.length_take];omega) (by rw[List.length_take];omega) (xh _ _ x1) (xh _ _ y1)
    rw[JZ]at hr
    rw[List.drop_drop]at x2 y2
    have ih:=QO IH fs (o + k1.length) k2 h2 w xs ys x2 y2
    rw[JY _ _ _ _ lx ly,List.drop_drop,List.drop_drop]
    simp only[Op.eqFields,dQ,ne_eq,not_false_eq_true,if_true,Sem.run_bind,dY,pa,pb,hr,Result.andThen_ok]
    cases hq:Jr k1 (xs.toList.drop o) (ys.toList.drop o) with
    | false=>simp
    | true=>simpa using ih
   ·cases h2
theorem QP {m D:Nat} {e:TypeId} {ks:List SK} (he:jh P m e=some ks) (hi:(P.info? e).isSome) (hc:P.cellsOf e=ks.length) (IH:J0 P D e ks) (xs ys:Array Value):∀ (n i:Nat) (w:World),kx (List.replicate n ks).flatten (xs.toList.drop (i * ks.length))→kx (List.replicate n ks).flatten (ys.toList.drop (i * ks.length)) →
  (Op.eqItems D e (P.cellsOf e) xs ys (List.range' i n)).run P w=.ok (Jr (List.replicate n ks).flatten (xs.toList.drop (i * ks.length)) (ys.toList.drop (i * ks.length))) w
 | 0,i,w,_,_=>by simp[Op.eqItems,Jr]
 | n + 1,i,w,hx,hy=>by
  rw[List.replicate_succ,List.flatten_cons]at hx hy ⊢
  obtain ⟨x1,x2⟩:=ve _ _ _ hx
  obtain ⟨y1,y2⟩:=ve _ _ _ hy
  obtain ⟨a,pa,ha⟩:=zX w he hi hc x1
  obtain ⟨b,pb,hb⟩:=zX w he hi hc y1
  have lx:=vf _ _ x1
  have ly:=vf _ _ y1
  have hr:=IH w a b _ _ ha hb (by rw[List.length_take];omega) (by rw[List.length_take];omega) (xh _ _ x1) (xh _ _ y1)
  rw[JZ]at hr
  have e1:i * ks.length + ks.length=(i + 1) * ks.length:=by rw[Nat.add_mul,Nat.one_mul]
  rw[List.drop_drop,e1]at x2 y2
  have ih:=QP he hi hc IH xs ys n (i + 1) w x2 y2
  rw[JY _ _ _ _ lx ly,List.drop_drop,List.drop_drop,e1]
  rw[List.range'_succ]
  simp only[Op.eqItems,Sem.run_bind,hc,pa,pb,hr,Result.andThen_ok]
  cases hq:Jr ks (xs.toList.drop (i * ks.length)) (ys.toList.drop (i * ks.length)) with
  | false=>simp
  | true=>rw[hc]at ih;simpa using ih
theorem FQ (d:Nat):∀ (m:Nat) (t:TypeId) (ks:List SK),jh P m t=some ks→J0 P (d + m) t ks
 | 0,_,_,h=>by cases h
 | m + 1,t,ks,h=>by
  intro w x y us vs hx hy lu lv ou ov
  unfold jh at h
  cases hu:P.underlying t with
  | none=>simp[hu]at h
  | some kd =>
   rw[hu]at h
   simp only[Wy,hu]at hx hy
   cases kd<;>simp only[Option.some.injEq,reduceCtorEq]at h hx hy
   case bool =>
    subst h hx hy
    obtain ⟨⟨a,rfl⟩,_⟩:=ou
    obtain ⟨⟨b,rfl⟩,_⟩:=ov
    rw[← Nat.add_assoc,run_equalIn_bool' w _ t a b hu]
    simp[Jr,Cq]
   case int k =>
    subst h hx hy
    obtain ⟨⟨a,rfl⟩,_⟩:=ou
    obtain ⟨⟨b,rfl⟩,_⟩:=ov
    rw[← Nat.add_assoc,run_equalIn_int w _ t k k a b hu]
    simp[Jr,Cq]
   case string =>
    subst h hx hy
    obtain ⟨⟨a,rfl⟩,_⟩:=ou
    obtain ⟨⟨b,rfl⟩,_⟩:=ov
    rw[← Nat.add_assoc,run_equalIn_string w _ t a b hu]
    simp[Jr,Cq]
   case struct fs =>
    subst hx hy
    split at h
    ·cases h
    ·rename_i hp
     have ji:P.fieldsOf t=fs:=by simp[Program.fieldsOf,hu]
     rw[← Nat.add_assoc,run_equalIn_struct w (d + m) t _ _ (by rw[ji];exact hu) (by simpa using hp),ji]
     have:=QO (FQ d m) fs.toList 0 ks h w us.toArray vs.toArray (by simpa using ou) (by simpa using ov)
     simpa using this
   case array n e =>
    subst hx hy
    split at h
    ·cases h
    ·rename_i hi
     replace hi:=FO hi
     obtain ⟨i,mr⟩:=Option.isSome_iff_exists.1 hi
     simp only[Option.bind_eq_some_iff]at h
     obtain ⟨k1,h1,h2⟩:=h
     split at h2
     ·rename_i hc
      cases h2
      rw[← Nat.add_assoc,run_equalIn_array w (d + m) _ _ hu mr,List.range_eq_range']
      have:=QP h1 hi hc (FQ d m e k1 h1) us.toArray vs.toArray n 0 w (by simpa using ou) (by simpa using ov)
      simpa using this
     ·cases h2
def Zi:AV→Option SK
 | .int k _=>some (.int k)
 | .bool _=>some .bool
 | .str _=>some .str
 | _=>none
theorem zY {g:Nat→GM} {W:Nat→Prop} {w:World}:∀ (ks:List SK) (cs:List AV) (us:List Value),cs.map Zi=ks.map some→us.length=cs.length→(∀ j,j < cs.length→VR g W w (cs.getD j .any) (us.getD j undef))→kx ks us
 | [],_,us,_,_,_=>by cases us<;>trivial
 | _::_,[],_,h,_,_=>by simp at h
 | _::_,_::_,[],_,h,_=>by simp at h
 | k::ks,x::cs,u::us,h,hl,hv=>by
  simp only[List.map_cons,List.cons.injEq]at h
  have h0:=hv 0 au
  simp only[List.getD_cons_zero]at h0
  refine ⟨?_,zY ks cs us h.2 (by simpa using hl) fun j hj=>by simpa using hv (j + 1) (by simp;omega)⟩
  have hk:=h.1
  cases x<;>simp[Zi]at hk<;>subst hk<;>cases h0<;>exact ⟨_,rfl⟩
theorem J1 {g:Nat→GM} {W:Nat→Prop} {w:World}:∀ (ks:List SK) (cs ds:List AV) (us vs:List Value),cs.map Zi=ks.map some→ds.map Zi=ks.map some→us.length=cs.length→vs.length=ds.length→(∀ j,j < cs.length→VR g W w (cs.getD j .any) (us.getD j undef))→(∀ j,j < ds.length→VR g W w (ds.getD j .any) (vs.getD j undef)) →
  (Jr ks us vs=true ↔ cs=ds)
 | [],[],[],_,_,_,_,_,_,_,_=>by simp[Jr]
 | [],[],_::_,_,_,_,h,_,_,_,_=>by simp at h
 | [],_::_,_,_,_,h,_,_,_,_,_=>by simp at h
 | _::_,[],_,_,_,h,_,_,_,_,_=>by simp at h
 | _::_,_::_,[],_,_,_,h,_,_,_,_=>by simp at h
 | _::_,_::_,_::_,[],_,_,_,h,_,_,_=>by simp at h
 | _::_,_::_,_::_,_::_,[],_,_,_,h,_,_=>by simp at h
 | k::ks,x::cs,y::ds,u::us,v::vs,hc,hd,lu,lv,hu,hv=>by
  simp only[List.map_cons,List.cons.injEq]at hc hd
  have h0:=hu 0 au
  have h1:=hv 0 au
  simp only[List.getD_cons_zero]at h0 h1
  have ih:=J1 ks cs ds us vs hc.2 hd.2 (by simpa using lu) (by simpa using lv) (fun j hj=>by simpa using hu (j + 1) (by simp;omega)) (fun j hj=>by simpa using hv (j + 1) (by simp;omega))
  simp only[Jr,Bool.and_eq_true,ih,List.cons.injEq]
  refine and_congr_left fun _=>?_
  have k1:=hc.1
  have k2:=hd.1
  cases x<;>simp[Zi]at k1<;>subst k1<;>cases y<;>simp[Zi]at k2<;>cases h0<;>cases h1<;>simp_all [Cq,ByteArray.toList_eq]
theorem QQ {o:Oper} {ne:Bool} {t:TypeId} {xs:List Operand} (h:Yh P o=some (.cA ne t,xs)):∃ x y u,o.op=.binOp (bif ne then .neq else .eql) t x y u∧xs=[x,y]:=by
 unfold Yh at h
 repeat' split at h
 all_goals first
  | (simp only[Option.some.injEq,Prod.mk.injEq,PK.cA.injEq]at h;obtain ⟨⟨rfl,rfl⟩,rfl⟩:=h;rename_i bh;exact ⟨_,_,_,by rw[bh];rfl,rfl⟩)
  | (simp at h;done)
  | (cases h;done)
  | (simp[Option.map_eq_some_iff]at h;done)
theorem Cr {c:Cx} {ne:Bool} {t:TypeId} {ks:List SK} {cs ds:List AV} {b:Bool} (hs:jh P 100 t=some ks) (hk:(match P.underlying t with|some (.struct _)=>true|some (.array _ _)=>true|_=>false)=true) (hm:P.eqGuardType P.depth t=false)
  (hc:cs.map Zi=ks.map some) (hd:ds.map Zi=ks.map some) (hb:b=true ↔ cs=ds):jN P c (.cA ne t) [.agg cs,.agg ds] (.bool (ne != b)):=by
 intro o ys aJ g W a w _ _ hv K Q hK
 obtain ⟨x,y,u,bh,rfl⟩:=QQ aJ
 obtain ⟨hx,hy,_⟩:=hv
 obtain ⟨xs,ex,lx,_,vx⟩:=Uc hx
 obtain ⟨zs,ey,ly,_,vy⟩:=Uc hy
 have QR:xs.toList.length=cs.length:=by simpa using lx
 have QS:zs.toList.length=ds.length:=by simpa using ly
 have gx:∀ j,xs.toList.getD j undef=xs.getD j undef:=fun j=>by simp[Array.getD_eq_getD_getElem?,List.getD]
 have gy:∀ j,zs.toList.getD j undef=zs.getD j undef:=fun j=>by simp[Array.getD_eq_getD_getElem?,List.getD]
 have QT:∀ j,j < cs.length→VR g W w (cs.getD j .any) (xs.toList.getD j undef):=fun j hj=>by rw[gx];exact vx j hj
 have QU:∀ j,j < ds.length→VR g W w (ds.getD j .any) (zs.toList.getD j undef):=fun j hj=>by rw[gy];exact vy j hj
 have kl:cs.length=ks.length:=by simpa using congrArg List.length hc
 have kl':ds.length=ks.length:=by simpa using congrArg List.length hd
 have hold:∀ z:Array Value,Wy P t (.agg z) z.toList:=fun z=>by
  unfold Wy
  split at hk<;>simp_all
 have hr:=FQ (P:=P) 9900 100 t ks hs w _ _ _ _ (hold xs) (hold zs) af af (zY ks cs _ hc QR QT) (zY ks ds _ hd QS QU)
 have he:Jr ks xs.toList zs.toList=b:=by
  have:=(J1 ks cs ds _ _ hc hd QR QS QT QU).trans hb.symm
  cases hq:Jr ks xs.toList zs.toList<;>cases b<;>simp_all
 rw[he]at hr
 have run:(execOp a.eval o).run P w=.ok (.value (.bool (ne != b))) w:=by
  unfold execOp
  cases ne
  ·simp only[bh,ex,ey,cond_false,Sem.run_bind,run_eqGuard_agg w _ t x y xs zs hm,run_eql_struct,hr,Result.andThen_ok,Sem.run_pure];cases b<;>rfl
  ·simp only[bh,ex,ey,cond_true,Sem.run_bind,run_eqGuard_agg w _ t x y xs zs hm,run_neq_struct,hr,Result.andThen_ok,Sem.run_pure];cases b<;>rfl
 unfold Oper.wp
 rw[run]
 exact hK _ _ (Fr.refl _ _) (.bool _)
end
section
variable {P:Program} {c:Cx} {g:Nat→GM} {s:FS} {a:Act} {w w':World}
theorem R.ng (hR:R c g s a w) {b:Nat} (bp:s.H b=.free):R c (Zf g b .ph) (s.aK b (.cells [])) a w:=by
 have js:g b=.un:=by
  have:=hR.h b;rw[bp]at this;generalize g b=m at this;cases this;rfl
 have hg:=zx (m:=.ph) js
 have dq:Zf g b .ph b=.ph:=by simp[Zf]
 have dX:∀ i,i≠b→Zf g b .ph i=g i:=fun i h=>by simp[Zf,h]
 have hl:∀ i k,((s.aK b (.cells [])).H i).live→Zf g b .ph i=.re k→i≠b∧(s.H i).live∧g i=.re k:=fun i k h e=>by
  have bX:i≠b:=fun h=>by subst h;rw[dq]at e;cases e
  rw[FS.a7,if_neg (fun h=>bX h.symm)]at h
  rw[dX i bX]at e
  exact ⟨bX,h,e⟩
 have hW:∀ k,Qo c (Zf g b .ph) (s.aK b (.cells [])) k→Qo c g s k:=by
  rintro k (h|⟨i,h1,h2⟩)
  ·exact .inl h
  ·exact .inr ⟨i,(hl i k h1 h2).2.1,(hl i k h1 h2).2.2⟩
 have hf:=Fr.refl w (Qo c g s)
 refine ⟨hR.size,hR.dI,fun i=>(hR.t i).mono hf (fun k _=>hW k) hg,fun i=>(hR.gl i).mono hf (fun k _=>hW k) (fun _ _=>rfl),fun i=>?_,fun p q m hp hq h1 h2=>?_,fun p m hp h1=>?_,hR.fr,hR.xs,Fj hR js⟩
 ·rw[FS.a7]
  split
  ·rename_i e;subst e;rw[dq];exact .ph
  ·rename_i e
   rw[dX i fun h=>e h.symm]
   exact (hR.h i).mono hf (fun k _=>hW k) hg fun _ _ _=>rfl
 ·exact hR.inj p q m (hl p m hp h1).2.1 (hl q m hq h2).2.1 (hl p m hp h1).2.2 (hl q m hq h2).2.2
 ·exact hR.old p m (hl p m hp h1).2.1 (hl p m hp h1).2.2
theorem QV (k o:Nat) (t:TypeId) (fz:Nat × Nat):∀ (vs:List Value) (i:Nat) (cur:Array Value) (w:World),w.heap[k]?=some (.cells cur t fz)→(fz=(0,0)∨cur.size≤fz.1)→o + i + vs.length≤cur.size→(∀ v ∈ vs,v.oneCell'=true) →
  (storeCells ⟨k,o,none⟩ vs i).run P w=.ok () (w.setRow k (cur.toList.take (o + i)++vs++cur.toList.drop (o + i + vs.length)).toArray)
 | [],i,cur,w,hg,_,_,_=>by
  simp only[storeCells,List.append_nil,List.length_nil,Nat.add_zero,List.take_append_drop,Array.toArray_toList]
  rw[setRow_self w k cur t fz hg]
  rfl
 | v::rest,i,cur,w,hg,hz,hl,h1=>by
  have hi:o + i < cur.size:=by simp at hl;omega
  have dt:(⟨k,o,none⟩:Addr).add i=⟨k,o + i,none⟩:=by unfold Addr.add;split<;>simp_all
  have ep:w.cell? ⟨k,o + i,none⟩=some cur[o + i]:=by simp[World.cell?,hg,hi]
  have J2:w.frozen? ⟨k,o + i,none⟩=false:=by
   simp only[World.frozen?,hg]
   rcases hz with rfl|hz
   ·simp
   ·have:¬ fz.1≤o + i:=by omega
    simp[this]
  have dN:(store ((⟨k,o,none⟩:Addr).add i) v).run P w=.ok () (w.setRow k (cur.setIfInBounds (o + i) v)):=by
   rw[dt,run_store P w _ v _ (h1 v au),ep]
   simp[J2,setCell_eq_setRow w k (o + i) cur t fz v hg]
  have ih:=QV k o t fz rest (i + 1) (cur.setIfInBounds (o + i) v) (w.setRow k (cur.setIfInBounds (o + i) v)) (setRow_heap w k cur _ t _ hg) (by simpa using hz) (by simp at hl ⊢;omega) (fun x hx=>h1 x (by simp[hx]))
  simp only[storeCells,Sem.run_bind,dN,Result.andThen_ok,ih,setRow_setRow]
  congr 3
  have e:=list_seg_step cur.toList (o + i) v rest (by simp at hl ⊢;omega)
  simpa [Array.toList_setIfInBounds,Nat.add_assoc] using e
theorem QW {t u ty e:TypeId} {i:TypeInfo} {z:Value} (ht:P.underlying t=some (.slice e)) (hu:u=t∨P.underlying u=some .string) (hi:P.info? e=some i) (hz:i.zero=some z)
  (ba:Option Addr) (db fj:Nat) (x:Value) (m:Nat) (dF news:List Value) (w:World) (hlen:∀ w,(Builtin.lenOf x).run P w=.ok m w)
  (bN:∀ w':World,w'.heap=w.heap→(Builtin.firstCells i.size m x).run P w'=.ok news.toArray w') (hold:∀ w':World,w'.heap=w.heap→(Builtin.firstCells i.size db (.slice ba db fj)).run P w'=.ok dF.toArray w')
  (hg:fj < db + m) (py:((db + m:Nat):Int)≤9223372036854775807) (gZ:Builtin.nextslicecap (db + m) fj * i.bytes≤281474976710656) :
  (Builtin.append_ #[t,u] ty #[.slice ba db fj,x]).run P w =
   .ok (.slice (some ⟨w.heap.size,0,none⟩) (db + m) (grownCap w (db + m) fj e))
    (w.drew.alloc (.cells (dF.toArray++news.toArray++Builtin.zeroCells z.cells (grownCap w (db + m) fj e - (db + m))) e)):=by
 have hn:¬ (db + m≤fj):=by omega
 have Cs:¬ (9223372036854775807 < ((db:Int) + (m:Int))):=by omega
 have Ct:¬ (281474976710656 < Builtin.nextslicecap (db + m) fj * i.bytes):=by omega
 have hf:=bN w.drew rfl
 have QX:=hold w.drew rfl
 rcases hu with rfl|hu
 ·simp[Builtin.append_,run_underlying ht,sizeOf,typeInfo,zeroValue,hi,hz,hlen,hn,Cs,Ct,Question.forced,hf,QX,newRow,grownCap]
  congr 2;apply Array.ext';simp
 ·simp[Builtin.append_,run_underlying ht,run_underlying hu,sizeOf,typeInfo,zeroValue,hi,hz,hlen,hn,Cs,Ct,Question.forced,hf,QX,newRow,grownCap]
  congr 2;apply Array.ext';simp
theorem QY {t u ty e:TypeId} {i:TypeInfo} (ht:P.underlying t=some (.slice e)) (hu:u=t∨P.underlying u=some .string) (hi:P.info? e=some i)
  (k db fj:Nat) (x:Value) (m:Nat) (news:List Value) (cur:Array Value) (e':TypeId) (fz:Nat × Nat) (w:World) (hlen:∀ w,(Builtin.lenOf x).run P w=.ok m w) (hk:w.heap[k]?=some (.cells cur e' fz)) (pw:fz=(0,0)∨cur.size≤fz.1)
  (bN:∀ w':World,w'.heap=w.heap→(Builtin.firstCells i.size m x).run P w'=.ok news.toArray w') (h1:∀ u ∈ news,u.oneCell'=true)
  (dR:db + m≤fj) (gZ:db * i.size + news.length≤cur.size) :
  (Builtin.append_ #[t,u] ty #[.slice (some ⟨k,0,none⟩) db fj,x]).run P w =
   .ok (.slice (some ⟨k,0,none⟩) (db + m) fj) (w.setRow k (cur.toList.take (db * i.size)++news++cur.toList.drop (db * i.size + news.length)).toArray):=by
 have dN:=QV (P:=P) k (db * i.size) e' fz news 0 cur w hk pw (by simpa using gZ) h1
 simp only[Nat.add_zero]at dN
 have hf:=bN w rfl
 rcases hu with rfl|hu
 ·simp[Builtin.append_,run_underlying ht,sizeOf,typeInfo,hi,hlen,dR,hf,Addr.add_lit,dN]
 ·simp[Builtin.append_,run_underlying ht,run_underlying hu,sizeOf,typeInfo,hi,hlen,dR,hf,Addr.add_lit,dN]
theorem QZ {t u ty e:TypeId} {i:TypeInfo} (ht:P.underlying t=some (.slice e)) (hu:u=t∨P.underlying u=some .string) (hi:P.info? e=some i)
  (ba:Option Addr) (db fj:Nat) (x:Value) (w:World) (hlen:∀ w,(Builtin.lenOf x).run P w=.ok 0 w)
  (bN:∀ w':World,w'.heap=w.heap→(Builtin.firstCells i.size 0 x).run P w'=.ok #[] w') (dR:db≤fj) :
  (Builtin.append_ #[t,u] ty #[.slice ba db fj,x]).run P w=.ok (.slice ba db fj) w:=by
 have hf:=bN w rfl
 rcases hu with rfl|hu
 ·cases ba<;>simp[Builtin.append_,run_underlying ht,sizeOf,typeInfo,hi,hlen,dR,hf,storeCells]
 ·cases ba<;>simp[Builtin.append_,run_underlying ht,run_underlying hu,sizeOf,typeInfo,hi,hlen,dR,hf,storeCells]
def Xk:AV→Nat
 | .isl m _=>m
 | .sl _ _ _ m _=>m
 | .str l=>l.length
 | _=>0
theorem J3 (es b o m cc:Nat):Xk (.sl es b o m cc)=m:=rfl
theorem Xx6 (m:Nat) (ds:List AV):Xk (.isl m ds)=m:=rfl
theorem Xu7 (l:List UInt8):Xk (.str l)=l.length:=rfl
theorem Xot:Xk .nils=0:=rfl
def Xy (s:FS) (es:Nat):AV→List AV
 | .isl m ds=>ds.take (m * es)
 | .sl _ b o m _=>((Yw (s.H b)).drop o).take (m * es)
 | .str l=>Xo l
 | _=>[]
def FR:Value→Prop
 | .slice _ 0 _=>True
 | _=>False
theorem Xoq {v:Value} (h:FR v):∃ a c,v=.slice a 0 c:=by
 unfold FR at h;split at h
 ·exact ⟨_,_,rfl⟩
 ·exact h.elim
def lg (s:FS) (es:Nat) (str:Bool):AV→Prop
 | .isl m ds=>str=false∧m * es≤ds.length
 | .sl es2 b o m _=>str=false∧es2=es∧o + m * es≤(Yw (s.H b)).length
 | .nils=>str=false
 | .lit v=>str=false∧FR v
 | .str _=>str=true∧es=1
 | _=>False
def jy:AV→Option Nat
 | .sl _ b _ _ _=>some b
 | _=>none
def tD (s:FS) (es:Nat):AV→Prop
 | .sl es2 b o n _=>es2=es∧o=0∧n * es≤(Yw (s.H b)).length∧(s.H b).live
 | .nils=>True
 | _=>False
def FS.cz (s:FS):Option Nat→FS
 | some b=>s.aK b .dead
 | none=>s
theorem Xhe {s:FS} {b:Nat} {n:Nat} (h:n≤(Yw (s.H b)).length) (hn:0 < n):∃ cs,s.H b=.cells cs:=by
 cases hh:s.H b with
 | cells cs=>exact ⟨cs,rfl⟩
 | _=>rw[hh]at h;simp[Yw]at h;omega
theorem J4 {k o:Nat} {cur:Array Value} {e:TypeId} {fz:Nat × Nat} (hb:w.heap[k]?=some (.cells cur e fz)) {n:Nat} (hn:o + n≤cur.size) :
  ∀ (w':World),w'.heap=w.heap→∀ j v,((cur.toList.drop o).take n)[j]?=some v→w'.cell? ((⟨k,o,none⟩:Addr).add j)=some v:=by
 intro w' hw j v hv
 have dt:(⟨k,o,none⟩:Addr).add j=⟨k,o + j,none⟩:=by unfold Addr.add;split<;>simp_all
 rw[dt]
 rw[List.getElem?_take]at hv
 split at hv
 ·rw[List.getElem?_drop]at hv
  simp only[World.cell?,hw,hb]
  simpa using hv
 ·cases hv
theorem zZ (es m:Nat) {a':Option Addr} {len cap:Nat} {vs:List Value} (hl:vs.length=m * es) (h:∀ w':World,w'.heap=w.heap→∀ j v,vs[j]?=some v→∃ a0,a'=some a0∧w'.cell? (a0.add j)=some v) :
  ∀ w':World,w'.heap=w.heap→(Builtin.firstCells es m (.slice a' len cap)).run P w'=.ok vs.toArray w':=by
 intro w' hw
 cases a' with
 | none =>
  cases vs with
  | nil=>simp[Builtin.firstCells]
  | cons v vs=>obtain ⟨a0,h1,_⟩:=h w' hw 0 v rfl;cases h1
 | some a0 =>
  refine run_firstCells_some w' es m a0 len cap vs hl fun j v hj=>?_
  obtain ⟨a1,h1,h2⟩:=h w' hw j v hj
  cases h1;exact h2
theorem FU (hR:R c g s a w) {es:Nat} {str:Bool} {x:AV} {u:Value} (hx:VR g (Qo c g s) w x u) (ok:lg s es str x) :
  ∃ news:List Value,(∀ w,(Builtin.lenOf u).run P w=.ok (Xk x) w)∧(∀ w':World,w'.heap=w.heap→(Builtin.firstCells es (Xk x) u).run P w'=.ok news.toArray w') ∧
   news.length=Xk x * es∧(Xy s es x).length=Xk x * es∧(∀ v ∈ news,v.oneCell'=true)∧∀ j,j < Xk x * es→VR g (Qo c g s) w ((Xy s es x).getD j .any) (news.getD j undef):=by
 cases x<;>simp only[lg]at ok
 case isl m ds =>
  obtain ⟨rfl,hl⟩:=ok
  obtain ⟨ad,cap,us,rfl,h1,h2,h3,h4⟩:=rZ hx
  simp only[Xk]
  have hlen:((List.range (m * es)).map us).length=m * es:=by simp
  have aW:∀ j,j < m * es→((List.range (m * es)).map us).getD j undef=us j:=fun j hj=>by simp[List.getD,hj]
  refine ⟨(List.range (m * es)).map us,fun w=>rfl,zZ es m hlen fun w' hw j v hj=>?_,hlen,by simp[Xy];omega,fun v hv=>?_,fun j hj=>?_⟩
  ·obtain ⟨cV,rfl⟩:=List.getElem?_eq_some_iff.1 hj
   rw[hlen]at cV
   obtain ⟨k,o,rfl,h5,_⟩:=h3 j af
   refine ⟨_,rfl,?_⟩
   have dt:(⟨k,o,none⟩:Addr).add j=⟨k,o + j,none⟩:=by unfold Addr.add;split<;>simp_all
   rw[dt]
   simp only[List.getElem_map,List.getElem_range]
   rw[← h5];unfold Ug World.cell?;simp only[hw]
  ·obtain ⟨j,hj,rfl⟩:=List.mem_map.1 hv
   simp at hj
   obtain ⟨k,o,_,_,_,h6⟩:=h3 j af
   exact h6
  ·rw[aW j hj]
   have:(Xy s es (.isl m ds)).getD j .any=ds.getD j .any:=by simp[Xy,List.getD,List.getElem?_take,hj]
   rw[this];exact h4 j af
 case sl es2 b o m cc =>
  obtain ⟨rfl,rfl,hl⟩:=ok
  simp only[Xk]
  rcases po hx with ⟨k,cap,e,cur,fz,rfl,h1,h2,h3,h4,h5,h6⟩|⟨ad,rfl,h1,rfl,rfl⟩
  ·by_cases eF:0 < m * es2
   ·obtain ⟨cs,iv⟩:=Xhe (s:=s) (b:=b) (n:=o + m * es2) hl af
    have hb:=hR.h b
    rw[h1,iv]at hb
    cases hb with
    | cells hb lh pz hv hf =>
    rename_i eD e' Q0
    rw[h5]at hb;cases hb
    have hlc:o + m * es2≤cs.length:=by rw[iv]at hl;exact hl
    have hlen:((cur.toList.drop o).take (m * es2)).length=m * es2:=by simp;omega
    have aW:∀ j,j < m * es2→((cur.toList.drop o).take (m * es2)).getD j undef=cur.getD (o + j) undef:=fun j hj=>by simp[List.getD,List.getElem?_take,hj,Array.getD_eq_getD_getElem?]
    refine ⟨(cur.toList.drop o).take (m * es2),fun w=>rfl,zZ es2 m hlen fun w' hw j v hj=>⟨_,rfl,J4 h5 af w' hw j v hj⟩,hlen,by simp[Xy,iv,Yw];omega,fun v hv=>?_,fun j hj=>?_⟩
    ·obtain ⟨j,hj,rfl⟩:=List.getElem_of_mem hv
     rw[hlen]at hj
     have:=pz (o + j) af
     have hg:=aW j hj
     simp only[List.getD,List.getElem?_eq_getElem (show j < ((cur.toList.drop o).take (m * es2)).length by omega),Option.getD_some]at hg
     rw[hg];exact this
    ·rw[aW j hj]
     have:(Xy s es2 (.sl es2 b o m cc)).getD j .any=cs.getD (o + j) .any:=by simp[Xy,iv,Yw,List.getD,List.getElem?_take,hj]
     rw[this];exact hv _ af
   ·have hz:m * es2=0:=by omega
    refine ⟨[],fun w=>rfl,zZ es2 m (by simp[hz]) fun w' hw j v hj=>by simp at hj,by simp[Xk,hz],by simp[Xk,Xy,hz],fun v hv=>(by cases hv),fun j hj=>af⟩
  ·refine ⟨[],fun w=>rfl,zZ es2 0 au fun w' hw j v hj=>by simp at hj,by simp[Xk],by simp[Xk,Xy],fun v hv=>(by cases hv),fun j hj=>af⟩
 case lit v =>
  obtain ⟨_,ok⟩:=ok
  obtain ⟨ad,cap,rfl⟩:=Xoq ok
  have:u=.slice ad 0 cap:=by cases hx;rfl
  subst this
  simp only[Xk]
  refine ⟨[],fun w=>rfl,zZ es 0 au fun w' hw j v hj=>by simp at hj,by simp[Xk],by simp[Xk,Xy],fun v hv=>(by cases hv),fun j hj=>af⟩
 case nils =>
  obtain ⟨ad,rfl⟩:=Fx hx
  simp only[Xk]
  refine ⟨[],fun w=>rfl,zZ es 0 au fun w' hw j v hj=>by simp at hj,by simp[Xk],by simp[Xk,Xy],fun v hv=>(by cases hv),fun j hj=>af⟩
 case str l =>
  obtain ⟨rfl,rfl⟩:=ok
  cases hx
  simp only[Xk]
  refine ⟨l.map fun b=>.int .u8 b.toNat,fun w=>?_,fun w' _=>?_,by simp[Xk],by simp[Xk,Xy,Xo],fun v hv=>?_,fun j hj=>?_⟩
  ·simp[Builtin.lenOf,Xk,ByteArray.size]
  ·have hx:(⟨l.toArray⟩:ByteArray).extract 0 l.length=⟨l.toArray⟩:=by
    have:l.length=(⟨l.toArray⟩:ByteArray).size:=rfl
    rw[this,ByteArray.extract_zero_size]
   simp[Builtin.firstCells,Xk,hx]
  ·obtain ⟨b,_,rfl⟩:=List.mem_map.1 hv;rfl
  ·simp only[Nat.mul_one]at hj
   have e1:(Xy s 1 (.str l)).getD j .any=.int .u8 (l[j]).toNat:=by simp[Xy,Xo,List.getD,hj]
   have e2:(l.map fun b:UInt8=>Value.int .u8 b.toNat).getD j undef=.int .u8 (l[j]).toNat:=by simp[List.getD,hj]
   rw[e1,e2];exact .int _ _
theorem Cu {g:Nat→GM} {b:Nat} {m:GM}:Zf g b m b=m:=by simp[Zf]
theorem Q2 (hR:R c g s a w) {nm:Nat} (bp:s.H nm=.free) {es N cap:Nat} {e:TypeId} {cs:List AV} {vs:List Value} {zs:Array Value} (hl:vs.length=N * es) (aV:cs.length=N * es) (ky:zs.size=(cap - N) * es) (hN:N≤cap) (hm:cap≤maxLen)
  (h1:∀ v ∈ vs,v.oneCell'=true) (hv:∀ j,j < N * es→VR g (Qo c g s) w (cs.getD j .any) (vs.getD j undef)) :
  ∃ g',R c g' (s.aK nm (.cells cs)) a (w.drew.alloc (.cells (vs.toArray++zs) e))∧VR g' (Qo c g' (s.aK nm (.cells cs))) (w.drew.alloc (.cells (vs.toArray++zs) e)) (.sl es nm 0 N N) (.slice (some ⟨w.heap.size,0,none⟩) N cap):=by
 have z6:R c g s a w.drew:=hR.grow (Fr.drew w _)
 have fy:∀ k,Qo c g s k→k < w.heap.size:=by
  rintro k (h|⟨b',hl,fh⟩)
  ·have:=(hR.xs k h).1;have:=hR.fr.size;omega
  ·exact BR.lt (fh ▸ hR.h b') hl
 have aW:∀ j,j < N * es→(vs.toArray++zs).getD j undef=vs.getD j undef:=fun j hj=>by
  simp[Array.getD_eq_getD_getElem?,List.getD,Array.getElem?_append,hl,hj]
 have bN:=heap_alloc_new w.drew (.cells (vs.toArray++zs) e)
 have bb:=z6.new (b:=nm) (x:=.cells cs) (.cells (vs.toArray++zs) e) bp trivial fun g' fh=>by
  refine .cells (cur:=vs.toArray++zs) (e:=e) (fz:=(0,0)) bN (by simp[hl,aV]) (fun j hj=>?_) (fun j hj=>?_) (.inl rfl)
  ·rw[aW j af]
   have cV:j < vs.length:=by omega
   simp only[List.getD,List.getElem?_eq_getElem cV,Option.getD_some]
   exact h1 _ (List.getElem_mem cV)
  ·rw[aW j af]
   exact ((hv j af).mono (Fr.drew w _) (fun _ _ h=>h) (fun _ _=>rfl)).mono (Fr.alloc w.drew _ _) (fun k hk h=>h.resolve_right (by simp at hk;simp;omega)) fh
 refine ⟨_,bb,.sl (k:=w.heap.size) (e:=e) (cur:=vs.toArray++zs) (fz:=(0,0)) Cu (Nat.le_refl _) hN hm bN ?_⟩
 simp[hl,ky,← Nat.add_mul]
 exact Nat.mul_le_mul_right _ af
theorem pA {s s':FS} (hT:∀ i,s.T i=s'.T i) (hH:∀ i,s.H i=s'.H i):s=s':=by
 cases s;cases s';congr 1<;>funext i
 ·exact hT i
 ·exact hH i
theorem Q3 {w:World} {k:Nat} {cur new:Array Value} {e:TypeId} {fz:Nat × Nat} (hk:w.heap[k]?=some (.cells cur e fz)) (hs:new.size=cur.size):Fr w (w.setRow k new) (fun i=>i=k) :=
 ⟨rfl,rfl,rfl,by simp[World.setRow],fun i _ bX=>setRow_other w k i new bX,fun i eD e' Q0 hi=>by
  by_cases h:i=k
  ·subst h
   rw[hk]at hi;cases hi
   exact ⟨new,setRow_heap w i cur new e fz hk,hs⟩
  ·exact ⟨eD,by rw[setRow_other w k i new h];exact hi,rfl⟩⟩
theorem Q4 (hR:R c g s a w) {nm:Nat} (bp:s.H nm=.free) {t u ty e:TypeId} {i:TypeInfo} {z:Value} {es:Nat} (ht:P.underlying t=some (.slice e)) (hu:u=t∨P.underlying u=some .string) (hi:P.info? e=some i) (hz:i.zero=some z) (c5:i.size=es) (ky:z.cells.size=es)
  (ad:Option Addr) {ux:Value} {m:Nat} {cs:List AV} {news:List Value} (q1:∀ w,(Builtin.lenOf ux).run P w=.ok m w) (q2:∀ w':World,w'.heap=w.heap→(Builtin.firstCells es m ux).run P w'=.ok news.toArray w')
  (q3:news.length=m * es) (q4:cs.length=m * es) (q5:∀ v ∈ news,v.oneCell'=true) (q6:∀ j,j < m * es→VR g (Qo c g s) w (cs.getD j .any) (news.getD j undef)) (py:m≤maxLen) (qn:m * i.bytes≤140737488355328) :
  ∃ g' v' w',(Builtin.append_ #[t,u] ty #[.slice ad 0 0,ux]).run P w=.ok v' w'∧R c g' (s.aK nm (.cells cs)) a w'∧VR g' (Qo c g' (s.aK nm (.cells cs))) w' (.sl es nm 0 m m) v':=by
 by_cases hm:m=0
 ·subst hm
  have hn:news=[]:=List.eq_nil_of_length_eq_zero af
  have hc:cs=[]:=List.eq_nil_of_length_eq_zero af
  subst hn hc
  exact ⟨_,_,_,QZ ht hu hi ad 0 0 ux w q1 (by rw[c5];exact q2) (Nat.le_refl _),hR.ng bp,.kr Cu rfl⟩
 ·have hr:=QW (ty:=ty) (P:=P) ht hu hi hz ad 0 0 ux m [] news w q1 (by rw[c5];exact q2) (fun w' _=>by cases ad<;>simp[Builtin.firstCells,loadCells,loadCellsFrom]) (by omega) (by simp only[maxLen]at py;omega) (growslice_fits (by omega) (by simpa using qn))
  simp only[Nat.zero_add,List.nil_append]at hr
  have fy:=IA w m 0 e
  obtain ⟨g',h1,h2⟩:=Q2 (es:=es) (N:=m) (cap:=grownCap w m 0 e) (e:=e) (zs:=Builtin.zeroCells z.cells (grownCap w m 0 e - m)) hR bp q3 q4 (by rw[size_zeroCells,ky]) fy (grownCap_le_maxLen w m 0 e py) q5 q6
  exact ⟨g',_,_,by rw[hr];simp,h1,h2⟩
theorem Xt5 (hR:R c g s a w) {nm:Nat} (bp:s.H nm=.free) {t u ty e:TypeId} {i:TypeInfo} {z:Value} {es:Nat} (ht:P.underlying t=some (.slice e)) (hu:u=t∨P.underlying u=some .string) (hi:P.info? e=some i) (hz:i.zero=some z) (c5:i.size=es) (ky:z.cells.size=es)
  {vb vx:AV} {ub ux:Value} {str:Bool} (hb:VR g (Qo c g s) w vb ub) (hx:VR g (Qo c g s) w vx ux) (FV:tD s es vb) (xi:lg s es str vx) (py:Xk vb + Xk vx≤maxLen) (qn:(Xk vb + Xk vx) * i.bytes≤140737488355328) :
  ∃ g' v' w',(Builtin.append_ #[t,u] ty #[ub,ux]).run P w=.ok v' w'∧R c g' ((s.cz (jy vb)).aK nm (.cells (Xy s es vb++Xy s es vx))) a w' ∧
   VR g' (Qo c g' ((s.cz (jy vb)).aK nm (.cells (Xy s es vb++Xy s es vx)))) w' (.sl es nm 0 (Xk vb + Xk vx) (Xk vb + Xk vx)) v':=by
 obtain ⟨news,q1,q2,q3,q4,q5,q6⟩:=FU (P:=P) hR hx xi
 cases vb<;>simp only[tD]at FV
 case nils =>
  obtain ⟨ad,rfl⟩:=Fx hb
  simp only[Xk,Xy,jy,FS.cz,Nat.zero_add,List.nil_append]at py qn ⊢
  exact Q4 hR bp ht hu hi hz c5 ky ad q1 q2 q3 q4 q5 q6 py qn
 case sl es2 b o n cc =>
  obtain ⟨rfl,rfl,hl,aP⟩:=FV
  have bX:nm≠b:=fun h=>by subst h;rw[bp]at aP;exact aP
  have b7:g b≠.un:=fun h=>by
   have:=hR.h b;rw[h]at this
   exact this.fV aP
  have jj:(s.aK b .dead).H nm=.free:=by rw[FS.a7,if_neg fun h=>bX h.symm,bp]
  have nh:=hR.kill b7
  have hWk:∀ k,Qo c g (s.aK b .dead) k→Qo c g s k:=Fi
  obtain ⟨dF,o1,o2,o3,o4,o5,o6⟩:=FU (P:=P) (str:=false) hR hb (x:=.sl es2 b 0 n cc) ⟨rfl,rfl,by simpa using hl⟩
  have Cv:∀ {x:AV} {y:Value},VR g (Qo c g s) w x y→VR g (Qo c g (s.aK b .dead)) w x y:=fun h=>h.mono (Fr.refl _ _) (fun k _=>hWk k) (fun _ _=>rfl)
  simp only[J3]at py qn o1 o2 o3 o4 o6 ⊢
  simp only[jy,FS.cz]
  rcases po hb with ⟨k,cap,e',cur,fz,rfl,h1,h2,h3,h4,h5,h6⟩|⟨ad,rfl,h1,rfl,rfl⟩
  ·have hlen:(dF++news).length=(n + Xk vx) * es2:=by rw[List.length_append,o3,q3,Nat.add_mul]
   have vg:(Xy s es2 (.sl es2 b 0 n cc)++Xy s es2 vx).length=(n + Xk vx) * es2:=by rw[List.length_append,o4,q4,Nat.add_mul]
   have wR:∀ v ∈ dF++news,v.oneCell'=true:=fun v hv=>(List.mem_append.1 hv).elim (o5 v) (q5 v)
   have FW:∀ j,j < (n + Xk vx) * es2→VR g (Qo c g s) w ((Xy s es2 (.sl es2 b 0 n cc)++Xy s es2 vx).getD j .any) ((dF++news).getD j undef):=fun j hj=>by
    by_cases my:j < n * es2
    ·have:=o6 j my
     simp only[List.getD,List.getElem?_append_left (show j < (Xy s es2 (.sl es2 b 0 n cc)).length by omega),List.getElem?_append_left (show j < dF.length by omega)]at this ⊢
     exact this
    ·have:=q6 (j - n * es2) (by rw[Nat.add_mul]at hj;omega)
     simp only[List.getD,List.getElem?_append_right (show (Xy s es2 (.sl es2 b 0 n cc)).length≤j by omega),List.getElem?_append_right (show dF.length≤j by omega),o3,o4]at this ⊢
     exact this
   by_cases dR:n + Xk vx≤cap
   ·-- in place
    have df:=hR.h b
    rw[h1]at df
    have pw:fz=(0,0)∨cur.size≤fz.1:=by
     cases hh:s.H b with
     | cells cs=>rw[hh]at df;cases df with|cells bJ _ _ _ hf=>rw[h5]at bJ;cases bJ;exact hf
     | aE kvs dn=>rw[hh]at df;cases df with|aE bJ=>rw[h5]at bJ;cases bJ
     | bl kvs bs ck=>rw[hh]at df;cases df with|bl bJ=>rw[h5]at bJ;cases bJ
     | iter b0 ck seen=>rw[hh]at df;cases df with|iter bJ=>rw[h5]at bJ;cases bJ
     | c7 ls=>rw[hh]at df;cases df with|c7 _ h'=>cases h' with|cells bJ _ _ _ hf=>rw[h5]at bJ;cases bJ;exact hf
     | free=>rw[hh]at aP;exact aP.elim
     | dead=>rw[hh]at aP;exact aP.elim
    have hmul:(n + Xk vx) * es2≤cap * es2:=Nat.mul_le_mul_right _ dR
    have gZ:n * i.size + news.length≤cur.size:=by rw[c5,q3,← Nat.add_mul];omega
    have hr:=QY (ty:=ty) (P:=P) ht hu hi k n cap ux (Xk vx) news cur e' fz w q1 h5 pw (by rw[c5];exact q2) q5 dR gZ
    rw[c5]at hr
    have holds:dF=cur.toList.take (n * es2):=by
     have a1:=o2 w rfl
     have a2:=run_firstCells_some (P:=P) w es2 n ⟨k,0,none⟩ n cap (cur.toList.take (n * es2)) (by simp;have:=Nat.mul_le_mul_right es2 (Nat.le_trans h2 h3);omega) (by have:=J4 h5 (o:=0) (n:=n * es2) (by have:=Nat.mul_le_mul_right es2 (Nat.le_trans h2 h3);omega) w rfl;simpa using this)
     rw[a1]at a2
     simpa using a2
    have cd:(cur.toList.take (n * es2)++news++cur.toList.drop (n * es2 + news.length)).toArray.size=cur.size:=by
     have:n * es2≤cur.size:=by have:=Nat.mul_le_mul_right es2 (Nat.le_trans h2 h3);omega
     rw[c5]at gZ
     simp;omega
    have aW:∀ j,j < (n + Xk vx) * es2→(cur.toList.take (n * es2)++news++cur.toList.drop (n * es2 + news.length)).toArray.getD j undef=(dF++news).getD j undef:=fun j hj=>by
     rw[← holds]
     simp only[Array.getD_eq_getD_getElem?,List.getD,List.getElem?_toArray]
     rw[List.getElem?_append_left af]
    have hf:=Q3 (new:=(cur.toList.take (n * es2)++news++cur.toList.drop (n * es2 + news.length)).toArray) h5 cd
    have vh:Qo c g s k:=.inr ⟨b,aP,h1⟩
    have bu:=hR.setBlock (x:=.cells (Xy s es2 (.sl es2 b 0 n cc)++Xy s es2 vx)) h1 aP trivial hf (by
     refine .cells (cur:=(cur.toList.take (n * es2)++news++cur.toList.drop (n * es2 + news.length)).toArray) (e:=e') (fz:=fz) (setRow_heap w k cur _ e' fz h5) af (fun j hj=>?_) (fun j hj=>?_) (by rw[cd];exact pw)
     ·rw[aW j af]
      have cV:j < (dF++news).length:=by omega
      simp only[List.getD,List.getElem?_eq_getElem cV,Option.getD_some]
      exact wR _ (List.getElem_mem cV)
     ·rw[aW j af]
      exact (FW j af).mono (hf.weak fun i hi=>hi ▸ vh) (fun _ _ h=>h) (fun _ _=>rfl))
    have Q5:=bu.move (b:=b) (b':=nm) (by rw[FS.a7,if_pos rfl];trivial) (by rw[FS.a7,if_neg fun h=>bX h.symm,bp])
    have ji:((s.aK b (.cells (Xy s es2 (.sl es2 b 0 n cc)++Xy s es2 vx))).aK b .dead).aK nm ((s.aK b (.cells (Xy s es2 (.sl es2 b 0 n cc)++Xy s es2 vx))).H b)=(s.aK b .dead).aK nm (.cells (Xy s es2 (.sl es2 b 0 n cc)++Xy s es2 vx)):=by
     refine pA (fun _=>rfl) fun j=>?_
     simp only[FS.a7,if_pos]
     split
     ·rfl
     ·split<;>rfl
    rw[ji]at Q5
    refine ⟨_,_,_,hr,Q5,.sl (k:=k) (e:=e') (fz:=fz) (by rw[Cu];exact h1) (Nat.le_refl _) dR h4 (setRow_heap w k cur _ e' fz h5) (by rw[cd];exact h6)⟩
   ·have fy:=IA w (n + Xk vx) cap e
    have hr:=QW (ty:=ty) (P:=P) ht hu hi hz (some ⟨k,0,none⟩) n cap ux (Xk vx) dF news w q1 (by rw[c5];exact q2) (by rw[c5];exact fun w' hw=>by simpa [Builtin.firstCells] using o2 w' hw) af (by simp only[maxLen]at py;omega) (growslice_fits af qn)
    obtain ⟨g',e1,e2⟩:=Q2 (es:=es2) (N:=n + Xk vx) (cap:=grownCap w (n + Xk vx) cap e) (e:=e) (zs:=Builtin.zeroCells z.cells (grownCap w (n + Xk vx) cap e - (n + Xk vx))) nh jj hlen vg (by rw[size_zeroCells,ky]) fy (grownCap_le_maxLen w _ _ e py) wR (fun j hj=>Cv (FW j hj))
    exact ⟨g',_,_,by rw[hr];simp,e1,e2⟩
  ·have vi:dF=[]:=List.eq_nil_of_length_eq_zero af
   have aV:Xy s es2 (.sl es2 b 0 0 0)=[]:=List.eq_nil_of_length_eq_zero af
   rw[aV]
   simp only[Nat.zero_add,List.nil_append]at py qn ⊢
   exact Q4 nh jj ht hu hi hz c5 ky ad q1 q2 q3 q4 q5 (fun j hj=>Cv (q6 j hj)) py qn
end
end Go.Proofs.YtogckmommodmhaaGreatDoor
