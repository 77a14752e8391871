import Derived.Test.YtogckmommodmhaaGreatDoorZv3
import Derived.DeepKeys
import Derived.Laws.StructEq
import Derived.Laws.AppendOwn
import Derived.Great.BuildSlice
import Derived.Laws.IdiomStrings
import Derived.KernelRfl
namespace Go.Proofs.YtogckmommodmhaaGreatDoor
open Go.RowKit
set_option linter.all false
set_option linter.unusedSimpArgs false
set_option maxRecDepth 100000
inductive TC where
 | skip
 | IV (l:List bG)
 | wT (l:List bG) (anc:List Nat)
 | seq (a b:TC)
 | cond (x:TV) (a b:TC)
 | block (i:Nat) (b:TC)
 | loop (b:TC)
 | exit (i:Nat)
 | ret
def Jf (P:Program) (N:Nat):Code→Option TC
 | .skip=>some .skip
 | .region _ ops false=>(su P N ops ops.toList).map .IV
 | .region _ ops true=>if IM ops=true then (su P N ops ops.toList).map fun l=>.wT l (zy ops.toList []) else none
 | .seq a b=>match Jf P N a,Jf P N b with
  | some x,some y=>some (.seq x y)
  | _,_=>none
 | .cond c a b=>match Jf P N a,Jf P N b with
  | some x,some y=>some (.cond (aT c) x y)
  | _,_=>none
 | .block i b=>(Jf P N b).map (.block i)
 | .loop b=>(Jf P N b).map .loop
 | .exit i=>some (.exit i)
 | .ret=>some .ret
 | _=>none
inductive EX where
 | normal
 | exit (i:Nat)
 | ret
def Fi (c:Cx) (Q:EX→St→Prop):Exit→Act→World→Prop
 | .normal,a,w=>∃ g s,R c g s.fs a w∧Q .normal s
 | .exit i,a,w=>∃ g s,R c g s.fs a w∧Q (.exit i) s
 | .ret,a,w=>∃ g s,R c g s.fs a w∧Q .ret s
 | _,_,_=>False
def AW (P:Program) (c:Cx) (code:Code) (Q:EX→St→Prop) (s:St):Prop:=∀ g a w,R c g s.fs a w→code.wp P (Fi c Q) a w
def PZ (k:(EX→St→Prop)→St→Prop) (Q:EX→St→Prop):EX→St→Prop
 | .normal,s=>k Q s
 | e,s=>Q e s
def zB (i:Nat) (Q:EX→St→Prop):EX→St→Prop
 | .exit j,s=>if j=i then Q .normal s else Q (.exit j) s
 | e,s=>Q e s
def sv (P:Program) (c:Cx) (b:TC) (Q:EX→St→Prop) (s:St):Prop:=∀ code,Jf P c.N code=some b→AW P c (.loop code) Q s
def xw (P:Program) (c:Cx):TC→(EX→St→Prop)→St→Prop
 | .skip,Q,s=>Q .normal s
 | .IV l,Q,s=>XP P c l (Q .normal) s
 | .wT l anc,Q,s=>XD P c anc l [] (Q .normal) s
 | .seq a b,Q,s=>xw P c a (PZ (xw P c b) Q) s
 | .cond x a b,Q,s=>fh (aZ c.gl s.fs x)∧(eL (aZ c.gl s.fs x)=true→xw P c a Q s)∧(eL (aZ c.gl s.fs x)=false→xw P c b Q s)
 | .block i b,Q,s=>xw P c b (zB i Q) s
 | .loop b,Q,s=>sv P c b Q s
 | .exit i,Q,s=>Q (.exit i) s
 | .ret,Q,s=>Q .ret s
def Fj (P:Program) (c:Cx) (b:TC) (Q:EX→St→Prop):EX→St→Prop:=PZ (xw P c b) Q
section
variable {P:Program} {c:Cx} {Q:EX→St→Prop} {s:St}
theorem Xz3:xw P c .skip Q s=Q .normal s:=rfl
theorem Ydf (l:List bG):xw P c (.IV l) Q s=XP P c l (Q .normal) s:=rfl
theorem Yaw (l:List bG) (anc:List Nat):xw P c (.wT l anc) Q s=XD P c anc l [] (Q .normal) s:=rfl
theorem Yd0 (a b:TC):xw P c (.seq a b) Q s=xw P c a (Fj P c b Q) s:=rfl
theorem Xxr (x:TV) (a b:TC):xw P c (.cond x a b) Q s=(fh (aZ c.gl s.fs x)∧(eL (aZ c.gl s.fs x)=true→xw P c a Q s)∧(eL (aZ c.gl s.fs x)=false→xw P c b Q s)):=rfl
theorem Xv1 (i:Nat) (b:TC):xw P c (.block i b) Q s=xw P c b (zB i Q) s:=rfl
theorem Xzp (b:TC):xw P c (.loop b) Q s=sv P c b Q s:=rfl
theorem Xyr (i:Nat):xw P c (.exit i) Q s=Q (.exit i) s:=rfl
theorem Ycc:xw P c .ret Q s=Q .ret s:=rfl
theorem Qzr (b:TC):Fj P c b Q .normal s=xw P c b Q s:=rfl
theorem Xpq (b:TC) (i:Nat):Fj P c b Q (.exit i) s=Q (.exit i) s:=rfl
theorem Xuq (b:TC):Fj P c b Q .ret s=Q .ret s:=rfl
end
section
variable {P:Program} {c:Cx}
theorem Xaj {ops:Array Oper} {id:Nat} {l:List bG} {Q:EX→St→Prop} {s:St} (hm:P.follows .mixedOrders=true) (hb:IM ops=true) (he:su P c.N ops ops.toList=some l)
  (h:XD P c (zy ops.toList []) l [] (Q .normal) s):AW P c (.region id ops true) Q s:=by
 intro g a w hR
 obtain ⟨S,F,sn,h1,h2,h3,h4,h5⟩:=PQ ops.toList l [] s he h
 have hn:ops.toList.length=ops.size:=by simp
 rw[hn]at h3 h5
 simp only[List.reverse_nil,List.nil_append]at h5
 have hc:Ch ops.size S F (fun j=>(List.range ops.size).filter fun i=>((zy ops.toList []).getD j 0).testBit i):=by
  refine ⟨fun j hj=>?_,fun j hj=>?_,fun i j iG hj aX=>?_⟩
  ·exact (h2 j ops[j] (by simp[hj])).bj
  ·exact (h2 j ops[j] (by simp[hj])).dc
  ·have:=PO _ [] h5 j (by simpa using hj) i (by simp;omega) (by simpa using iG) (by simpa using Xtt aX)
   simp only[List.mem_filter,List.mem_range]
   exact ⟨by omega,by simpa using this⟩
 refine wp_region_any hm ?_
 have IW:HeadInv .any ops ops.size (Array.replicate ops.size false) :=
  ⟨by simp,fun j oj _ hl=>(by rw[getD_replicate_false]at hl;cases hl),fun t ht mq=>by omega⟩
 have bg:R c g s.fs a { w with drawn:=w.drawn + 1 }:=hR.grow (Fr.drew w _)
 refine Xpf (S:=S) (F:=F) rfl hb hc (fun L' fX j hj=>?_) (fun j o ho=>h2 j o (by simpa using ho)) (fun g' a' w' IX=>⟨g',sn,by rw[h3];exact IX,h4⟩) _ _ g a _ IW ?_ ?_
 ·intro i hi
  exact PM (ops:=ops) (L:=fun k=>L' k=true) fX ops.toList [] (fun i=>by simp) (fun j hj=>by simp at hj) j hj i (List.mem_filter.1 hi).2
 ·rw[PW _ fun j _=>getD_replicate_false _ _,h1];exact bg
 ·unfold cz
  rw[List.filter_eq_self.2 (fun j hj=>by
   have cU:=List.mem_range.1 hj
   rw[getD_in (by simp;omega) (getD_replicate_false _ _)];rfl)]
  simp
end
section
variable {P:Program} {c:Cx}
theorem vn (hm:P.follows .mixedOrders=true):∀ (code:Code) (t:TC) (Q:EX→St→Prop) (s:St),Jf P c.N code=some t→xw P c t Q s→AW P c code Q s:=by
 intro code
 induction code with
 | skip =>
  intro t Q s he h g a w hR
  simp[Jf]at he;subst he
  exact wp_skip ⟨g,s,hR,h⟩
 | region id ops d =>
  intro t Q s he h
  cases d with
  | false =>
   simp only[Jf,Option.map_eq_some_iff]at he
   obtain ⟨l,hl,rfl⟩:=he
   intro g a w hR
   exact wp_region_list (IL (K:=Q .normal) (fun s g a w hs hR=>⟨g,s,hR,hs⟩) ops.toList l s hl h g a w hR)
  | true =>
   simp only[Jf]at he
   split at he
   ·rename_i hb
    simp only[Option.map_eq_some_iff]at he
    obtain ⟨l,hl,rfl⟩:=he
    exact Xaj hm hb hl h
   ·cases he
 | seq x y ihx ihy =>
  intro t Q s he h g a w hR
  simp only[Jf]at he
  split at he
  ·rename_i tx ty hx hy
   simp at he;subst he
   refine wp_seq (wp_mono (ihx tx _ s hx h g a w hR) fun e a' w' hq=>?_)
   cases e with
   | normal =>
    obtain ⟨g',s',bg,cF⟩:=hq
    exact ihy ty Q s' hy cF g' a' w' bg
   | exit i=>exact hq
   | ret=>exact hq
   | goto l=>exact hq
   | panic ch=>exact hq
   | outgrown=>exact hq
  ·cases he
 | cond x a b P0 P1 =>
  intro t Q s he h g act w hR
  simp only[Jf]at he
  split at he
  ·rename_i ta tb ha hb
   simp at he;subst he
   obtain ⟨h1,h2,h3⟩:=h
   have hv:=(hR.ev x).fh h1
   refine wp_cond_split hv (fun ht=>?_) fun hf=>?_
   ·exact P0 ta Q s ha (h2 ht) g act w hR
   ·exact P1 tb Q s hb (h3 hf) g act w hR
  ·cases he
 | block i b ih =>
  intro t Q s he h g a w hR
  simp only[Jf,Option.map_eq_some_iff]at he
  obtain ⟨tb,hb,rfl⟩:=he
  refine wp_block (wp_mono (ih tb _ s hb h g a w hR) fun e a' w' hq=>?_)
  cases e with
  | exit j =>
   obtain ⟨g',s',bg,cF⟩:=hq
   simp only[zB]at cF
   simp only[Exit.inBlock]
   split
   ·rename_i e;rw[if_pos e]at cF;exact ⟨g',s',bg,cF⟩
   ·rename_i e;rw[if_neg e]at cF;exact ⟨g',s',bg,cF⟩
  | normal=>exact hq
  | ret=>exact hq
  | goto l=>exact hq
  | panic ch=>exact hq
  | outgrown=>exact hq
 | loop b ih =>
  intro t Q s he h
  simp only[Jf,Option.map_eq_some_iff]at he
  obtain ⟨tb,hb,rfl⟩:=he
  exact h b hb
 | exit i =>
  intro t Q s he h g a w hR
  simp[Jf]at he;subst he
  exact wp_exit ⟨g,s,hR,h⟩
 | ret =>
  intro t Q s he h g a w hR
  simp[Jf]at he;subst he
  exact wp_ret ⟨g,s,hR,h⟩
 | rangeFunc f ps a b P0 P1=>intro t Q s he;simp[Jf]at he
 | scope b ih=>intro t Q s he;simp[Jf]at he
 | label l=>intro t Q s he;simp[Jf]at he
 | goto l=>intro t Q s he;simp[Jf]at he
 | refuse why=>intro t Q s he;simp[Jf]at he
end
mutual
def Qe (n:Nat):AV→Prop
 | .dw _ v=>Qe n v
 | .agg cs=>ai n cs
 | .aU cs=>ai n cs
 | .xp cs _=>ai n cs
 | .isl _ cs=>ai n cs
 | .cl _ cs=>ai n cs
 | .ptr b _=>b < n
 | .sl _ b _ _ _=>b < n
 | .mp b=>b < n
 | _=>True
def ai (n:Nat):List AV→Prop
 | []=>True
 | x::xs=>Qe n x∧ai n xs
end
mutual
def aE (ρ:Nat→Nat):AV→AV
 | .dw b v=>.dw b (aE ρ v)
 | .agg cs=>.agg (az ρ cs)
 | .aU cs=>.aU (az ρ cs)
 | .xp cs o=>.xp (az ρ cs) o
 | .isl n cs=>.isl n (az ρ cs)
 | .cl f cs=>.cl f (az ρ cs)
 | .ptr b o=>.ptr (ρ b) o
 | .sl es b o n c=>.sl es (ρ b) o n c
 | .mp b=>.mp (ρ b)
 | .any=>.any
 | .int k n=>.int k n
 | .bool b=>.bool b
 | .str l=>.str l
 | .nils=>.nils
 | .lit v=>.lit v
def az (ρ:Nat→Nat):List AV→List AV
 | []=>[]
 | x::xs=>aE ρ x::az ρ xs
end
theorem Xv {n:Nat}:∀ {cs:List AV},ai n cs ↔ ∀ x ∈ cs,Qe n x
 | []=>by simp[ai]
 | x::xs=>by simp[ai,Xv (cs:=xs)]
theorem Yu (ρ:Nat→Nat):∀ cs:List AV,az ρ cs=cs.map (aE ρ)
 | []=>by simp[az]
 | x::xs=>by simp[az,Yu ρ xs]
theorem Ys (ρ:Nat→Nat) (cs:List AV):(az ρ cs).length=cs.length:=by rw[Yu];simp
theorem Ku (ρ:Nat→Nat) (cs:List AV) (j:Nat):(az ρ cs).getD j .any=aE ρ (cs.getD j .any):=by
 rw[Yu]
 simp only[List.getD,List.getElem?_map]
 cases cs[j]?<;>simp[aE]
theorem Zv {n:Nat} {cs:List AV} (h:ai n cs) (j:Nat):Qe n (cs.getD j .any):=by
 by_cases hj:j < cs.length
 ·rw[Bt hj];exact Xv.1 h _ (List.getElem_mem _)
 ·have:cs.getD j .any=.any:=by simp[List.getD,Nat.le_of_not_lt hj]
  rw[this];simp[Qe]
section
variable {P:Program} {W:Nat→Prop} {w:World} {g g':Nat→GM} {n:Nat} {ρ:Nat→Nat}
theorem VR.aE (hg:∀ b,b < n→g (ρ b)=g' b) {v:AV} {u:Value} (h:VR g' W w v u):Qe n v→VR g W w (aE ρ v) u:=by
 induction h with
 | any v=>intro _;simp only[Proofs.YtogckmommodmhaaGreatDoor.aE];exact .any _
 | dw h h0 ih=>intro hn;simp only[Proofs.YtogckmommodmhaaGreatDoor.aE];simp only[Qe]at hn;exact .dw (fun hb=>ih hb hn) h0
 | int k n=>intro _;simp only[Proofs.YtogckmommodmhaaGreatDoor.aE];exact .int _ _
 | bool b=>intro _;simp only[Proofs.YtogckmommodmhaaGreatDoor.aE];exact .bool _
 | str l=>intro _;simp only[Proofs.YtogckmommodmhaaGreatDoor.aE];exact .str _
 | agg hs h1 h ih =>
  intro hn;simp only[Proofs.YtogckmommodmhaaGreatDoor.aE];simp only[Qe]at hn
  exact .agg (by rw[Ys];exact hs) (fun j hj=>h1 j (by rwa [Ys]at hj)) fun j hj=>by rw[Ku];exact ih j (by rwa [Ys]at hj) (Zv hn j)
 | aU hs h ih =>
  intro hn;simp only[Proofs.YtogckmommodmhaaGreatDoor.aE];simp only[Qe]at hn
  exact .aU (by rw[Ys];exact hs) fun j hj=>by rw[Ku];exact ih j (by rwa [Ys]at hj) (Zv hn j)
 | ptr e=>intro hn;simp only[Proofs.YtogckmommodmhaaGreatDoor.aE];simp only[Qe]at hn;exact .ptr (by rw[hg _ hn];exact e)
 | xp hc h ih =>
  intro hn;simp only[Proofs.YtogckmommodmhaaGreatDoor.aE];simp only[Qe]at hn
  exact .xp (fun j hj=>hc j (by rwa [Ys]at hj)) fun j hj=>by rw[Ku];exact ih j (by rwa [Ys]at hj) (Zv hn j)
 | sl e a b c d f=>intro hn;simp only[Proofs.YtogckmommodmhaaGreatDoor.aE];simp only[Qe]at hn;exact .sl (by rw[hg _ hn];exact e) a b c d f
 | ku e hc=>intro hn;simp only[Proofs.YtogckmommodmhaaGreatDoor.aE];simp only[Qe]at hn;exact .ku (by rw[hg _ hn];exact e) hc
 | isl a b hc h ih =>
  intro hn;simp only[Proofs.YtogckmommodmhaaGreatDoor.aE];simp only[Qe]at hn
  exact .isl a b (fun j hj=>hc j (by rwa [Ys]at hj)) fun j hj=>by rw[Ku];exact ih j (by rwa [Ys]at hj) (Zv hn j)
 | nils a=>intro _;simp only[Proofs.YtogckmommodmhaaGreatDoor.aE];exact .nils _
 | cl hs h ih =>
  intro hn;simp only[Proofs.YtogckmommodmhaaGreatDoor.aE];simp only[Qe]at hn
  exact .cl (by rw[Ys];exact hs) fun j hj=>by rw[Ku];exact ih j (by rwa [Ys]at hj) (Zv hn j)
 | mp e=>intro hn;simp only[Proofs.YtogckmommodmhaaGreatDoor.aE];simp only[Qe]at hn;exact .mp (by rw[hg _ hn];exact e)
 | lit v=>intro _;simp only[Proofs.YtogckmommodmhaaGreatDoor.aE];exact .lit _
theorem VR.iH (hg:∀ b,b < n→g (ρ b)≠.un→g (ρ b)=g' b) {x:AV} {u:Value} (h:VR g W w x u):∀ v,x=Proofs.YtogckmommodmhaaGreatDoor.aE ρ v→Qe n v→VR g' W w v u:=by
 induction h with
 | any=>intro v e _;cases v<;>simp[Proofs.YtogckmommodmhaaGreatDoor.aE]at e;exact .any _
 | dw h h0 ih=>intro v e hn;cases v<;>simp[Proofs.YtogckmommodmhaaGreatDoor.aE]at e;obtain ⟨rfl,rfl⟩:=e;exact .dw (fun hb=>ih hb _ rfl (by simpa [Qe] using hn)) h0
 | int k n=>intro v e _;cases v<;>simp[Proofs.YtogckmommodmhaaGreatDoor.aE]at e;obtain ⟨rfl,rfl⟩:=e;exact .int _ _
 | bool b=>intro v e _;cases v<;>simp[Proofs.YtogckmommodmhaaGreatDoor.aE]at e;subst e;exact .bool _
 | str l=>intro v e _;cases v<;>simp[Proofs.YtogckmommodmhaaGreatDoor.aE]at e;subst e;exact .str _
 | agg hs h1 h ih =>
  intro v e hn;cases v<;>simp[Proofs.YtogckmommodmhaaGreatDoor.aE]at e;subst e;simp only[Qe]at hn
  rw[Ys]at hs h1 ih
  exact .agg hs h1 fun j hj=>ih j hj _ (Ku _ _ _) (Zv hn j)
 | aU hs h ih =>
  intro v e hn;cases v<;>simp[Proofs.YtogckmommodmhaaGreatDoor.aE]at e;subst e;simp only[Qe]at hn
  rw[Ys]at hs ih
  exact .aU hs fun j hj=>ih j hj _ (Ku _ _ _) (Zv hn j)
 | ptr e0=>intro v e hn;cases v<;>simp[Proofs.YtogckmommodmhaaGreatDoor.aE]at e;obtain ⟨rfl,rfl⟩:=e;simp only[Qe]at hn;exact .ptr (by rw[← hg _ hn (by rw[e0];intro x;cases x)];exact e0)
 | xp hc h ih =>
  intro v e hn;cases v<;>simp[Proofs.YtogckmommodmhaaGreatDoor.aE]at e;obtain ⟨rfl,rfl⟩:=e;simp only[Qe]at hn
  rw[Ys]at hc ih
  exact .xp hc fun j hj=>ih j hj _ (Ku _ _ _) (Zv hn j)
 | sl e0 a b c d f=>intro v e hn;cases v<;>simp[Proofs.YtogckmommodmhaaGreatDoor.aE]at e;obtain ⟨rfl,rfl,rfl,rfl,rfl⟩:=e;simp only[Qe]at hn;exact .sl (by rw[← hg _ hn (by rw[e0];intro x;cases x)];exact e0) a b c d f
 | ku e0 hc=>intro v e hn;cases v<;>simp[Proofs.YtogckmommodmhaaGreatDoor.aE]at e;obtain ⟨rfl,rfl,rfl,rfl,rfl⟩:=e;simp only[Qe]at hn;exact .ku (by rw[← hg _ hn (by rw[e0];intro x;cases x)];exact e0) hc
 | isl a b hc h ih =>
  intro v e hn;cases v<;>simp[Proofs.YtogckmommodmhaaGreatDoor.aE]at e;obtain ⟨rfl,rfl⟩:=e;simp only[Qe]at hn
  rw[Ys]at hc ih
  exact .isl a b hc fun j hj=>ih j hj _ (Ku _ _ _) (Zv hn j)
 | nils a=>intro v e _;cases v<;>simp[Proofs.YtogckmommodmhaaGreatDoor.aE]at e;exact .nils _
 | cl hs h ih =>
  intro v e hn;cases v<;>simp[Proofs.YtogckmommodmhaaGreatDoor.aE]at e;obtain ⟨rfl,rfl⟩:=e;simp only[Qe]at hn
  rw[Ys]at hs ih
  exact .cl hs fun j hj=>ih j hj _ (Ku _ _ _) (Zv hn j)
 | mp e0=>intro v e hn;cases v<;>simp[Proofs.YtogckmommodmhaaGreatDoor.aE]at e;subst e;simp only[Qe]at hn;exact .mp (by rw[← hg _ hn (by rw[e0];intro x;cases x)];exact e0)
 | lit=>intro v e _;cases v<;>simp[Proofs.YtogckmommodmhaaGreatDoor.aE]at e;subst e;exact .lit _
theorem ql (ρ:Nat→Nat) (h:∀ b,ρ b=b):∀ v:AV,Proofs.YtogckmommodmhaaGreatDoor.aE ρ v=v:=by
 have:ρ=id:=funext h
 subst this
 intro v
 exact AV.rec (motive_1:=fun v=>Proofs.YtogckmommodmhaaGreatDoor.aE id v=v) (motive_2:=fun l=>az id l=l) (by simp[Proofs.YtogckmommodmhaaGreatDoor.aE]) (fun b v h=>by simp[Proofs.YtogckmommodmhaaGreatDoor.aE,h]) (fun _ _=>by simp[Proofs.YtogckmommodmhaaGreatDoor.aE]) (fun _=>by simp[Proofs.YtogckmommodmhaaGreatDoor.aE]) (fun _=>by simp[Proofs.YtogckmommodmhaaGreatDoor.aE])
  (fun cs h=>by simp[Proofs.YtogckmommodmhaaGreatDoor.aE,h]) (fun cs h=>by simp[Proofs.YtogckmommodmhaaGreatDoor.aE,h]) (fun _ _=>by simp[Proofs.YtogckmommodmhaaGreatDoor.aE]) (fun cs _ h=>by simp[Proofs.YtogckmommodmhaaGreatDoor.aE,h]) (fun _ _ _ _ _=>by simp[Proofs.YtogckmommodmhaaGreatDoor.aE]) (fun _ cs h=>by simp[Proofs.YtogckmommodmhaaGreatDoor.aE,h]) (by simp[Proofs.YtogckmommodmhaaGreatDoor.aE])
  (fun _ cs h=>by simp[Proofs.YtogckmommodmhaaGreatDoor.aE,h]) (fun _=>by simp[Proofs.YtogckmommodmhaaGreatDoor.aE]) (fun _=>by simp[Proofs.YtogckmommodmhaaGreatDoor.aE]) (by simp[az]) (fun x xs h1 h2=>by simp[az,h1,h2]) v
theorem VR.nm {v:AV} {u:Value} (h:VR g W w v u) (hn:Qe n v) (hg:∀ b,b < n→g b=g' b):VR g' W w v u :=
 h.iH (ρ:=id) (n:=n) (g':=g') (fun b hb _=>hg b hb) v (ql _ (fun _=>rfl) v).symm hn
end
def rl:List (Nat × Nat)→Nat→Nat
 | [],b=>b
 | (i,j)::r,b=>bif i == b then j else rl r b
def Xg (ρ:Nat→Nat):Bk→Bk
 | .cells cs=>.cells (az ρ cs)
 | .aC kvs dn=>.aC (kvs.map fun p=>(aE ρ p.1,aE ρ p.2)) dn
 | .bm kvs bs ck=>.bm (kvs.map fun p=>(aE ρ p.1,aE ρ p.2)) bs ck
 | .iter b ck seen=>.iter (ρ b) ck seen
 | .db ls=>.db ls
 | x=>x
def bJ (n:Nat):Bk→Prop
 | .cells cs=>ai n cs
 | .aC kvs _=>∀ p ∈ kvs,Qe n p.1∧Qe n p.2
 | .bm kvs _ _=>∀ p ∈ kvs,Qe n p.1∧Qe n p.2
 | .iter b _ _=>b < n
 | .db ls=>∀ l ∈ ls,ai 0 l
 | _=>False
def Qy (ρ:Nat→Nat) (n:Nat) (st:List (Nat × AV)):List (Nat × AV)→Prop
 | []=>True
 | (i,v)::r=>(Qe n v∧look st i=aE ρ v)∧Qy ρ n st r
def tM (ρ:Nat→Nat) (b:Nat):List (Nat × Bk)→Prop
 | []=>True
 | (b',_)::r=>ρ b'≠ρ b∧tM ρ b r
def oD (ρ:Nat→Nat) (n:Nat) (s:St):List (Nat × Bk)→Prop
 | []=>True
 | (b,x)::r=>(b < n∧bJ n x∧Qc s.h s.n (ρ b)=Xg ρ x∧tM ρ b r)∧oD ρ n s r
def Sub (ρ:Nat→Nat) (s s':St):Prop:=Qy ρ s'.n s.t s'.t∧oD ρ s'.n s s'.h
theorem P2:∀ (l:List (Nat × AV)) (i:Nat),look l i=.any∨∃ p ∈ l,p.1=i∧look l i=p.2
 | [],_=>.inl rfl
 | (j,v)::l,i=>by
  rw[Zn]
  by_cases h:j=i
  ·rw[if_pos h];exact .inr ⟨(j,v),by simp,h,rfl⟩
  ·rw[if_neg h]
   rcases P2 l i with h'|⟨p,h1,h2,h3⟩
   ·exact .inl h'
   ·exact .inr ⟨p,by simp[h1],h2,h3⟩
theorem Zs:∀ (l:List (Nat × Bk)) (n i:Nat),(Qc l n i=if i < n then .dead else .free)∨∃ p ∈ l,p.1=i∧Qc l n i=p.2
 | [],n,i=>by
  exact .inl rfl
 | (j,v)::l,n,i=>by
  rw[Qd]
  by_cases h:j=i
  ·rw[if_pos h];exact .inr ⟨(j,v),by simp,h,rfl⟩
  ·rw[if_neg h]
   rcases Zs l n i with h'|⟨p,h1,h2,h3⟩
   ·exact .inl h'
   ·exact .inr ⟨p,by simp[h1],h2,h3⟩
theorem P3 {ρ:Nat→Nat} {n:Nat} {st:List (Nat × AV)}:∀ {l:List (Nat × AV)},Qy ρ n st l→∀ p ∈ l,Qe n p.2∧look st p.1=aE ρ p.2
 | [],_,p,hp=>by cases hp
 | (i,v)::r,h,p,hp=>by
  rcases List.mem_cons.1 hp with rfl|hp
  ·exact h.1
  ·exact P3 h.2 p hp
theorem IY {ρ:Nat→Nat} {b:Nat}:∀ {l:List (Nat × Bk)},tM ρ b l→∀ p ∈ l,ρ p.1≠ρ b
 | [],_,p,hp=>by cases hp
 | (i,v)::r,h,p,hp=>by
  rcases List.mem_cons.1 hp with rfl|hp
  ·exact h.1
  ·exact IY h.2 p hp
theorem IZ {ρ:Nat→Nat} {n:Nat} {s:St}:∀ {l:List (Nat × Bk)},oD ρ n s l→∀ p ∈ l,p.1 < n∧bJ n p.2∧Qc s.h s.n (ρ p.1)=Xg ρ p.2
 | [],_,p,hp=>by cases hp
 | (i,v)::r,h,p,hp=>by
  rcases List.mem_cons.1 hp with rfl|hp
  ·exact ⟨h.1.1,h.1.2.1,h.1.2.2.1⟩
  ·exact IZ h.2 p hp
theorem P4 {ρ:Nat→Nat} {n:Nat} {s:St}:∀ {l:List (Nat × Bk)},oD ρ n s l→∀ p ∈ l,∀ q ∈ l,ρ p.1=ρ q.1→p.1=q.1
 | [],_,p,hp=>by cases hp
 | (i,v)::r,h,p,hp=>by
  intro q hq e
  rcases List.mem_cons.1 hp with rfl|hp<;>rcases List.mem_cons.1 hq with rfl|hq
  ·rfl
  ·exact absurd e.symm (IY h.1.2.2.2 q hq)
  ·exact absurd e (IY h.1.2.2.2 p hp)
  ·exact P4 h.2 p hp q hq e
theorem Xzz {ls Bq:List (List AV)} (hp:Bq.Perm ls) (hn:∀ l ∈ ls,ai 0 l):ai 0 Bq.flatten:=Xv.2 fun x hx=>by
 obtain ⟨l,hl,hx⟩:=List.mem_flatten.1 hx
 exact Xv.1 (hn l (hp.mem_iff.1 hl)) x hx
theorem BR.j6 {g g':Nat→GM} {W W':Nat→Prop} {w:World} {m:GM} {ls:List (List AV)} (h:BR g W w m (.db ls)) (hn:∀ l ∈ ls,ai 0 l) (hW:∀ k,W' k→W k):BR g' W' w m (.db ls):=by
 cases h with
 | db hp h =>
  refine .db hp ?_
  have hf:=Xzz hp hn
  generalize List.flatten _=cs at h hf
  cases h with
  | ph=>exact .ph
  | cells hb hl h1 hv hz=>exact .cells hb hl h1 (fun j hj=>((hv j hj).nm (Zv hf j) (fun b hb=>by omega)).mono (Fr.refl w W) (fun k _=>hW k) (fun _ _=>rfl)) hz
section
variable {g g':Nat→GM} {W W':Nat→Prop} {w:World}
theorem BR.iH {ρ:Nat→Nat} {n:Nat} (fk:∀ b,b < n→g (ρ b)≠.un→g (ρ b)=g' b) {mm:GM} {x:Bk} (h:BR g W w mm (Xg ρ x)) (hn:bJ n x) (hW:∀ k,W' k→W k):BR g' W' w mm x:=by
 have back:∀ {v u},Qe n v→VR g W w (aE ρ v) u→VR g' W' w v u:=fun hn h=>(h.iH fk _ rfl hn).mono (Fr.refl w W) (fun k _=>hW k) (fun _ _=>rfl)
 cases x with
 | free=>exact hn.elim
 | dead=>exact hn.elim
 | cells cs =>
  simp only[Xg]at h
  simp only[bJ]at hn
  generalize iw:az ρ cs=cs' at h
  cases h with
  | ph =>
   have:cs=[]:=by cases cs<;>simp_all [az]
   subst this;exact .ph
  | cells hb hl h1 hv hz =>
   subst iw
   rw[Ys]at hl h1 hv
   exact .cells hb hl h1 (fun j hj=>back (Zv hn j) (by have:=hv j hj;rwa [Ku]at this)) hz
 | aC kvs dn =>
  simp only[Xg]at h
  simp only[bJ]at hn
  generalize iw:(kvs.map fun p=>(aE ρ p.1,aE ρ p.2))=kvs' at h
  cases h with
  | aC hb hs j4 hv hc ha hd =>
   subst iw
   rw[List.length_map]at hs j4 hv
   have aW:∀ j,j < kvs.length→(kvs.map fun p=>(aE ρ p.1,aE ρ p.2)).getD j (.any,.any)=(aE ρ (kvs.getD j (.any,.any)).1,aE ρ (kvs.getD j (.any,.any)).2):=fun j hj=>by simp[List.getD,hj]
   have bI:∀ j,j < kvs.length→kvs.getD j (.any,.any) ∈ kvs:=fun j hj=>by simp[List.getD,hj]
   exact .aC hb hs (fun j hj=>back (hn _ (bI j hj)).1 (by have:=j4 j hj;rwa [aW j hj]at this)) (fun j hj=>back (hn _ (bI j hj)).2 (by have:=hv j hj;rwa [aW j hj]at this)) hc ha hd
 | bm kvs bs ck =>
  simp only[Xg]at h
  simp only[bJ]at hn
  generalize iw:(kvs.map fun p=>(aE ρ p.1,aE ρ p.2))=kvs' at h
  cases h with
  | bm hb hs j4 hv hc ha hd =>
   subst iw
   rw[List.length_map]at hs j4 hv
   have aW:∀ j,j < kvs.length→(kvs.map fun p=>(aE ρ p.1,aE ρ p.2)).getD j (.any,.any)=(aE ρ (kvs.getD j (.any,.any)).1,aE ρ (kvs.getD j (.any,.any)).2):=fun j hj=>by simp[List.getD,hj]
   have bI:∀ j,j < kvs.length→kvs.getD j (.any,.any) ∈ kvs:=fun j hj=>by simp[List.getD,hj]
   exact .bm hb hs (fun j hj=>back (hn _ (bI j hj)).1 (by have:=j4 j hj;rwa [aW j hj]at this)) (fun j hj=>back (hn _ (bI j hj)).2 (by have:=hv j hj;rwa [aW j hj]at this)) hc ha hd
 | iter b0 ck seen =>
  simp only[Xg]at h
  simp only[bJ]at hn
  generalize iw:ρ b0=b1 at h
  cases h with
  | iter hb kN=>exact .iter hb (by rw[← fk b0 hn (by rw[iw,kN];intro x;cases x),iw];exact kN)
 | db ls=>exact BR.j6 h hn hW
end
theorem Xj {n:Nat} {x:Bk} (h:bJ n x):x.live:=by cases x<;>simp_all [bJ,Bk.live]
theorem zC {ρ:Nat→Nat} {x:Bk}:(Xg ρ x).live ↔ x.live:=by cases x<;>simp[Xg,Bk.live]
section
variable {P:Program} {c:Cx}
open Classical in
theorem Sub.to {ρ:Nat→Nat} {s s':St} (hs:Sub ρ s s') {g:Nat→GM} {a:Act} {w:World} (hR:R c g s.fs a w) (gN:∀ p ∈ c.gh,ρ p.1=p.1∧p.1 < s'.n):∃ g',R c g' s'.fs a w:=by
 obtain ⟨hT,hH⟩:=hs
 let g':Nat→GM:=fun b=>if b < s'.n then (if g (ρ b)=.un then .ph else g (ρ b)) else .un
 have fk:∀ b,b < s'.n→g (ρ b)≠.un→g (ρ b)=g' b:=fun b hb h=>by simp only[g',if_pos hb,if_neg h]
 have iu:∀ b,s'.n≤b→g' b=.un:=fun b hb=>by simp only[g'];rw[if_neg af]
 have bN:∀ b,b < s'.n→g' b≠.un:=fun b hb=>by
  simp only[g',if_pos hb]
  split
  ·intro h;cases h
  ·assumption
 -- I0 a live name of s' is
 have aO:∀ b,(s'.fs.H b).live→∃ p ∈ s'.h,p.1=b∧s'.fs.H b=p.2:=fun b hl=>by
  rcases Zs s'.h s'.n b with h|h
  ·have:s'.fs.H b=if b < s'.n then .dead else .free:=h
   rw[this]at hl;split at hl<;>exact hl.elim
  ·exact h
 have iI:∀ b,(s'.fs.H b).live→b < s'.n∧(s.fs.H (ρ b)).live∧g' b=g (ρ b):=fun b hl=>by
  obtain ⟨p,hp,rfl,e⟩:=aO b hl
  obtain ⟨h1,h2,h3⟩:=IZ hH p hp
  have di:(s.fs.H (ρ p.1)).live:=by
   show (Qc s.h s.n (ρ p.1)).live
   rw[h3,zC];exact Xj h2
  refine ⟨h1,di,(fk _ h1 fun e=>?_).symm⟩
  have:=hR.h (ρ p.1)
  rw[e]at this
  generalize s.fs.H (ρ p.1)=x at this di
  exact this.fU di
 have hW:∀ k,Qo c g' s'.fs k→Qo c g s.fs k:=by
  rintro k (h|⟨b,h1,h2⟩)
  ·exact .inl h
  ·obtain ⟨_,h4,h5⟩:=iI b h1
   exact .inr ⟨ρ b,h4,by rw[← h5];exact h2⟩
 have hf:=Fr.refl w (Qo c g s.fs)
 have BL:∀ {v u},VR g' (Qo c g s.fs) w v u→VR g' (Qo c g' s'.fs) w v u:=fun h=>h.mono hf (fun k _=>hW k) (fun _ _=>rfl)
 have back:∀ {v u},Qe s'.n v→VR g (Qo c g s.fs) w (aE ρ v) u→VR g' (Qo c g' s'.fs) w v u:=fun hn h=>BL (h.iH fk _ rfl hn)
 refine ⟨g',hR.size,hR.dL,fun i=>?_,fun i=>(hR.gl i).mono hf (fun k _=>hW k) (fun _ _=>rfl),fun b=>?_,fun b b' k h1 h2 e1 e2=>?_,fun b k h1 e1=>?_,hR.fr,hR.xs,fun p hp=>?_⟩
 ·rcases P2 s'.t i with h|⟨p,h1,rfl,h3⟩
  ·show VR g' _ w (look s'.t i) _
   rw[h];exact .any _
  ·show VR g' _ w (look s'.t p.1) _
   rw[h3]
   obtain ⟨q1,q2⟩:=P3 hT p h1
   have:=hR.t p.1
   have e:s.fs.T p.1=aE ρ p.2:=q2
   rw[e]at this
   exact back q1 this
 ·rcases Zs s'.h s'.n b with h|⟨p,h1,rfl,h3⟩
  ·show BR g' _ w _ (Qc s'.h s'.n b)
   rw[h]
   split
   ·rename_i hb;exact .dead (bN b hb)
   ·rename_i hb;rw[iu b af];exact .free
  ·show BR g' _ w _ (Qc s'.h s'.n p.1)
   rw[h3]
   obtain ⟨q1,q2,q3⟩:=IZ hH p h1
   have hl:(s'.fs.H p.1).live:=by
    show (Qc s'.h s'.n p.1).live
    rw[h3];exact Xj q2
   obtain ⟨_,_,e5⟩:=iI p.1 hl
   rw[e5]
   have dV:=hR.h (ρ p.1)
   have e:s.fs.H (ρ p.1)=Xg ρ p.2:=q3
   rw[e]at dV
   exact dV.iH fk q2 hW
 ·obtain ⟨p1,oE,rfl,_⟩:=aO b h1
  obtain ⟨p2,fb,rfl,_⟩:=aO b' h2
  obtain ⟨_,l1,d1⟩:=iI _ h1
  obtain ⟨_,l2,d2⟩:=iI _ h2
  exact P4 hH p1 oE p2 fb (hR.inj _ _ k l1 l2 (by rw[← d1];exact e1) (by rw[← d2];exact e2))
 ·obtain ⟨_,l1,d1⟩:=iI _ h1
  exact hR.old _ k l1 (by rw[← d1];exact e1)
 ·obtain ⟨q1,q2⟩:=hR.ib p hp
  obtain ⟨q3,q4⟩:=gN p hp
  have:=fk p.1 q4 (by rw[q3,q1];exact q2)
  rw[← this,q3];exact ⟨q1,q2⟩
def Fk {σ:Type} (I:σ→Prop) (cY:σ→St) (μ:σ→Nat) (x:σ) (Q:EX→St→Prop):EX→St→Prop
 | .normal,s=>∃ y,I y∧(∃ ρ,Sub (rl ρ) s (cY y))∧μ y < μ x
 | e,s=>Q e s
theorem Xs {σ:Type} (I:σ→Prop) (cY:σ→St) (μ:σ→Nat) {b:TC} {Q:EX→St→Prop} {s:St} (hm:P.follows .mixedOrders=true) (a7:c.gh=[]) (h0:∃ y,I y∧∃ ρ,Sub (rl ρ) s (cY y))
  (hr:∀ x,I x→xw P c b (Fk I cY μ x Q) (cY x)):sv P c b Q s:=by
 intro code he g a w hR
 obtain ⟨y0,BM,ρ0,kX⟩:=h0
 obtain ⟨g0,jJ⟩:=kX.to hR (by rw[a7];intro p hp;cases hp)
 have key:∀ n (x:σ),μ x=n→I x→∀ g a w,R c g (cY x).fs a w→∀ (fr:Frame) (k:List Item) (cs:List Frame),∃ e a' w',Fi c Q e a' w'∧Arrives P (lone (fr.at a (.code code::.inLoop code::k)) cs w) fr k cs e a' w':=by
  intro n
  induction n using Nat.strongRecOn with
  | _ n ih =>
   intro x hx hI g a w hR fr k cs
   have hb:=vn hm code b _ _ he (hr x hI) g a w hR
   obtain ⟨e,a1,w1,hq,eT⟩:=hb fr (.inLoop code::k) cs
   cases e with
   | normal =>
    obtain ⟨g1,s1,cu,y,BN,⟨ρ,hs⟩,hlt⟩:=hq
    obtain ⟨g2,bV⟩:=hs.to cu (by rw[a7];intro p hp;cases hp)
    obtain ⟨e2,a2,w2,lQ,kY⟩:=ih (μ y) af y rfl BN g2 a1 w1 bV fr k cs
    exact ⟨e2,a2,w2,lQ,.of_steps (Steps.trans eT (.one step_inLoop)) kY⟩
   | exit i=>exact ⟨.exit i,a1,w1,hq,.pass (x:=.inLoop code) rfl (fun _ _=>.inl av) eT⟩
   | ret=>exact ⟨.ret,a1,w1,hq,.pass (x:=.inLoop code) rfl (fun _ _=>.inl av) eT⟩
   | goto l=>exact hq.elim
   | panic ch=>exact hq.elim
   | outgrown=>exact hq.elim
 intro fr k cs
 obtain ⟨e,a',w',hq,eT⟩:=key _ y0 rfl BM g0 a w jJ fr k cs
 exact ⟨e,a',w',hq,.of_steps (.one step_loop) eT⟩
def qm (m:Nat) (ρ:List (Nat × Nat)) (n:Nat):Prop:=(∀ p ∈ ρ,m≤p.1)∧m≤n
theorem P5 {m:Nat}:∀ {ρ:List (Nat × Nat)} (_:∀ p ∈ ρ,m≤p.1) {b:Nat},b < m→rl ρ b=b
 | [],_,_,_=>rfl
 | (i,j)::ρ,h,b,hb=>by
  have h1:m≤i:=h (i,j) av
  have h2:=P5 (ρ:=ρ) (fun p hp=>h p (by simp[hp])) hb
  have:(i == b)=false:=by simp;omega
  simp only[rl,this,cond_false,h2]
theorem I1 {m:Nat} {ρ:List (Nat × Nat)} {n:Nat} (a7:∀ p ∈ c.gh,p.1 < m) (h:qm m ρ n):∀ p ∈ c.gh,rl ρ p.1=p.1∧p.1 < n:=fun p hp=>⟨P5 h.1 (a7 p hp),Nat.lt_of_lt_of_le (a7 p hp) h.2⟩
def Fm {σ:Type} (m:Nat) (I:σ→Prop) (cY:σ→St) (μ:σ→Nat) (x:σ) (Q:EX→St→Prop):EX→St→Prop
 | .normal,s=>∃ y,I y∧(∃ ρ,qm m ρ (cY y).n∧Sub (rl ρ) s (cY y))∧μ y < μ x
 | e,s=>Q e s
theorem Um {σ:Type} (I:σ→Prop) (cY:σ→St) (μ:σ→Nat) {b:TC} {Q:EX→St→Prop} {s:St} (hm:P.follows .mixedOrders=true) (m:Nat) (a7:∀ p ∈ c.gh,p.1 < m) (h0:∃ y,I y∧∃ ρ,qm m ρ (cY y).n∧Sub (rl ρ) s (cY y))
  (hr:∀ x,I x→xw P c b (Fm m I cY μ x Q) (cY x)):sv P c b Q s:=by
 intro code he g a w hR
 obtain ⟨y0,BM,ρ0,hp0,kX⟩:=h0
 obtain ⟨g0,jJ⟩:=kX.to hR (I1 a7 hp0)
 have key:∀ n (x:σ),μ x=n→I x→∀ g a w,R c g (cY x).fs a w→∀ (fr:Frame) (k:List Item) (cs:List Frame),∃ e a' w',Fi c Q e a' w'∧Arrives P (lone (fr.at a (.code code::.inLoop code::k)) cs w) fr k cs e a' w':=by
  intro n
  induction n using Nat.strongRecOn with
  | _ n ih =>
   intro x hx hI g a w hR fr k cs
   have hb:=vn hm code b _ _ he (hr x hI) g a w hR
   obtain ⟨e,a1,w1,hq,eT⟩:=hb fr (.inLoop code::k) cs
   cases e with
   | normal =>
    obtain ⟨g1,s1,cu,y,BN,⟨ρ,hp,hs⟩,hlt⟩:=hq
    obtain ⟨g2,bV⟩:=hs.to cu (I1 a7 hp)
    obtain ⟨e2,a2,w2,lQ,kY⟩:=ih (μ y) af y rfl BN g2 a1 w1 bV fr k cs
    exact ⟨e2,a2,w2,lQ,.of_steps (Steps.trans eT (.one step_inLoop)) kY⟩
   | exit i=>exact ⟨.exit i,a1,w1,hq,.pass (x:=.inLoop code) rfl (fun _ _=>.inl av) eT⟩
   | ret=>exact ⟨.ret,a1,w1,hq,.pass (x:=.inLoop code) rfl (fun _ _=>.inl av) eT⟩
   | goto l=>exact hq.elim
   | panic ch=>exact hq.elim
   | outgrown=>exact hq.elim
 intro fr k cs
 obtain ⟨e,a',w',hq,eT⟩:=key _ y0 rfl BM g0 a w jJ fr k cs
 exact ⟨e,a',w',hq,.of_steps (.one step_loop) eT⟩
def zD (P : Program) (f : FuncId) : Prop := ∃ fn, P.funcs[f]? = some fn ∧ fn.body.isNone = false ∧ (fn.name == "runtime.NumGoroutine") = false
def PS (P:Program) (gl:Nat→AV) (f:FuncId) (args:List AV) (r:AV):Prop :=
 zD P f∧∀ (w:World) (vs:List Value) (X:Nat→Prop),(∀ k,X k→k < w.heap.size)→(∀ i,VR (fun _=>.un) X w (gl i) (.pointer (some ⟨i,0,none⟩)))→bO (fun _=>.un) X w args vs →
  Calls P f vs.toArray w fun e w'=>∃ v,e=.returned v∧VR (fun _=>.un) X w' r v∧Fr w w' (fun _=>False)
inductive RS where
 | t (i:Nat)
 | cell (a:Nat) (ty:TY)
def m8 (P:Program):List ResultVar→Option (List RS)
 | []=>some []
 | .tmp t::r=>(m8 P r).map (.t t::·)
 | .cell a t::r=>match kO P t,m8 P r with
  | some ty,some l=>some (.cell a ty::l)
  | _,_=>none
def rv (s:FS):RS→AV
 | .t i=>s.T i
 | .cell a ty=>match s.T a with
  | .ptr b off=>match s.H b with
   | .cells cs=>wr ty cs off
   | _=>.any
  | _=>.any
def Wt (s:FS):List RS→Prop
 | []=>True
 | .t _::r=>Wt s r
 | .cell a ty::r=>(match s.T a with
  | .ptr b off=>match s.H b with
   | .cells cs=>j5 ty cs off
   | _=>False
  | _=>False)∧Wt s r
def fY (s:FS):List RS→AV
 | [x]=>rv s x
 | l=>.aU (l.map (rv s))
def Yt (s:FS):AV→AV
 | .sl es b off n _=>match s.H b with
  | .cells cs=>.isl n ((cs.drop off).take (n * es))
  | _=>.any
 | v=>v
def Ze (s:FS):AV→AV
 | .agg cs=>.agg (cs.map (Yt s))
 | v=>Yt s v
def fZ (s:FS):AV→AV
 | .aU vs=>.aU (vs.map (Ze s))
 | v=>Ze s v
def BO (rs:List RS) (r:AV):EX→St→Prop
 | .exit _,_=>False
 | _,s=>Wt s.fs rs∧fZ s.fs (fY s.fs rs)=r
def js:Nat→List AV→List (Nat × AV)
 | _,[]=>[]
 | k,x::xs=>(k,x)::js (k + 1) xs
theorem I2:∀ (xs:List AV) (k i:Nat),look (js k xs) i=if k≤i∧i < k + xs.length then xs.getD (i - k) .any else .any
 | [],k,i=>by
  rw[if_neg (fun h=>by have:=h.2;simp at this;omega)];rfl
 | x::xs,k,i=>by
  simp only[js]
  rw[Zn,I2 xs (k + 1) i]
  by_cases h:k=i
  ·subst h;rw[if_pos rfl,if_pos av];simp
  ·rw[if_neg h]
   simp only[List.length_cons]
   by_cases h2:k + 1≤i∧i < k + 1 + xs.length
   ·rw[if_pos h2,if_pos af]
    have:i - k=(i - (k + 1)) + 1:=by omega
    rw[this];simp
   ·rw[if_neg h2,if_neg af]
theorem I3 {g:Nat→GM} {s:FS} {a:Act} {w:World} (hR:R c g s a w):∀ (rs:List ResultVar) (l:List RS),m8 P rs=some l→Wt s l →
  ∃ vs:List Value,(rs.mapM (fun x=>(match x with|.tmp t=>pure (a.tmps.getD t undef)|.cell ad t=>do loadVar t (← asAddr (a.tmps.getD ad undef)):Sem Value))).run P w=.ok vs w∧bO g (Qo c g s) w (l.map (rv s)) vs
 | [],l,he,_=>by simp[m8]at he;subst he;exact ⟨[],by simp,trivial⟩
 | .tmp t::r,l,he,ho=>by
  simp only[m8,Option.map_eq_some_iff]at he
  obtain ⟨l',h1,rfl⟩:=he
  obtain ⟨vs,h2,h3⟩:=I3 hR r l' h1 ho
  exact ⟨a.tmps.getD t undef::vs,by simp only[List.mapM_cons,Sem.run_bind,Sem.run_pure,Result.andThen_ok,h2],hR.t t,h3⟩
 | .cell ad t::r,l,he,ho=>by
  simp only[m8]at he
  split at he
  ·rename_i ty l' jn hl
   simp at he;subst he
   obtain ⟨wU,ho2⟩:=ho
   obtain ⟨vs,h2,h3⟩:=I3 hR r l' hl ho2
   have ht:=hR.t ad
   cases hT:s.T ad<;>rw[hT]at wU<;>simp only at wU
   rename_i b off
   rw[hT]at ht
   obtain ⟨k,e1,e2⟩:=zq ht
   cases hH:s.H b<;>rw[hH]at wU<;>simp only at wU
   rename_i cs
   have dV:=hR.h b
   rw[hH]at dV
   have BP:∃ v,(loadVar t ⟨k,off,none⟩).run P w=.ok v w∧VR g (Qo c g s) w (wr ty cs off) v:=by
    by_cases dU:0 < cs.length
    ·obtain ⟨k',us,q1,q2,q3,q4⟩:=Is dV dU
     rw[e2]at q1;cases q1
     obtain ⟨v,hr,om⟩:=Bu (P:=P) (o:=0) jn q2 q3 q4 wU
     exact ⟨v,by simpa [Instr.loadAt,Instr.sureAddr] using hr,om⟩
    ·obtain ⟨rfl,rfl,rfl⟩:=Pj wU dU
     obtain ⟨v,hr,om⟩:=Bu (P:=P) (g:=g) (W:=Qo c g s) (k:=k) (o:=0) (us:=fun _=>undef) jn (fun j hj=>absurd hj av) (fun j hj=>absurd hj av) (fun j hj=>absurd hj av) wU
     exact ⟨v,by simpa [Instr.loadAt,Instr.sureAddr] using hr,om⟩
   obtain ⟨v,m9,fL⟩:=BP
   refine ⟨v::vs,?_,?_,h3⟩
   ·have I4:(asAddr (a.tmps.getD ad undef)).run P w=.ok ⟨k,off,none⟩ w:=by rw[e1];rfl
    simp only[List.mapM_cons,Sem.run_bind,I4,Sem.run_pure,Result.andThen_ok,m9,h2]
   ·have:rv s (.cell ad ty)=wr ty cs off:=by simp only[rv,hT,hH]
    rw[this];exact fL
  ·cases he
theorem BQ {fn:Func} {l:List RS} {g:Nat→GM} {s:FS} {a:Act} {w:World} (hR:R c g s a w) (he:m8 P fn.results.toList=some l) (ho:Wt s l):∃ v,(results fn a.tmps).run P w=.ok v w∧VR g (Qo c g s) w (fY s l) v:=by
 obtain ⟨vs,h1,h2⟩:=I3 hR _ _ he ho
 have h3:(fn.results.mapM (fun x=>(match x with|.tmp t=>pure (a.tmps.getD t undef)|.cell ad t=>do loadVar t (← asAddr (a.tmps.getD ad undef)):Sem Value))).run P w=.ok vs.toArray w:=by
  rw[Array.mapM_eq_mapM_toList]
  simp only[Sem.run_map,h1,Result.andThen_ok]
 have h4:(results fn a.tmps).run P w=.ok (if h:vs.toArray.size=1 then vs.toArray[0] else .tuple vs.toArray) w:=by
  unfold results
  rw[Sem.run_bind]
  exact (congrArg (fun r=>Result.andThen r _) h3).trans rfl
 refine ⟨_,h4,?_⟩
 clear h4 h3 h1
 match l,vs,h2 with
 | [x],[v],h2=>exact h2.1
 | [],[],_=>exact .aU rfl fun j hj=>absurd hj av
 | x::y::l,u::v::vs,h2 =>
  rw[dif_neg av]
  have hl:=h2.length
  exact .aU (by simp at hl ⊢;omega) fun j hj=>by
   have:=h2.get j hj
   simpa using this
theorem P6 {g:Nat→GM} {s:FS} {a:Act} {w:World} (hR:R c g s a w) {b k:Nat} (hl:(s.H b).live) (hg:g b=.re k):¬ c.X k:=fun hx=>by
 have h1:=hR.xs k hx
 rcases hR.old b k hl hg with h|h
 ·omega
 ·exact h1.2 h
theorem VR.shut {g:Nat→GM} {s:FS} {a:Act} {w:World} (hR:R c g s a w) {v:AV} {u:Value} (h:VR g (Qo c g s) w v u) (hn:Qe 0 v):VR (fun _=>.un) c.X w v u :=
 (h.nm hn (g':=fun _=>.un) (fun b hb=>absurd hb af)).mono (Fr.refl _ _) (fun _ _ h=>.inl h) (fun _ _=>rfl)
theorem P7 {g:Nat→GM} {s:FS} {a:Act} {w:World} (hR:R c g s a w) {v:AV} {u:Value} (h:VR g (Qo c g s) w v u) (hn:Qe 0 (Yt s v)):VR (fun _=>.un) c.X w (Yt s v) u:=by
 by_cases hs:∃ es b off n k,v=.sl es b off n k
 ·obtain ⟨es,b,off,n,k,rfl⟩:=hs
  simp only[Yt]at hn ⊢
  cases hH:s.H b with
  | cells cs =>
   rw[hH]at hn
   simp only at hn ⊢
   simp only[Qe]at hn
   have dV:=hR.h b
   rw[hH]at dV
   rcases px h with ⟨kk,cap,e,cur,fz,rfl,hg,h1,h2,h3,h4,h5⟩|⟨vh,rfl,hg,rfl,rfl⟩
   ·rw[hg]at dV
    have hx:=P6 hR (by rw[hH];trivial) hg
    cases dV with
    | cells hb hl jI hv hz =>
     rename_i I5 e2 fz2
     rw[h4]at hb;cases hb
     have hlen:∀ j,j < ((cs.drop off).take (n * es)).length→off + j < cs.length∧j < n * es:=fun j hj=>by simp at hj;omega
     refine .isl (us:=fun j=>cur.getD (off + j) undef) af h3 (fun j hj=>?_) fun j hj=>?_
     ·obtain ⟨py,fD⟩:=hlen j hj
      refine ⟨kk,off,rfl,?_,hx,jI _ py⟩
      have:=cell_of_row w kk (off + j) cur e fz h4
      unfold Uj
      rw[this]
      have:off + j < cur.size:=by omega
      simp[Array.getD,this]
     ·obtain ⟨py,fD⟩:=hlen j hj
      have ee:((cs.drop off).take (n * es)).getD j .any=cs.getD (off + j) .any:=by simp only[List.getD,List.getElem?_take,List.getElem?_drop,if_pos fD]
      have mr:=Zv hn j
      rw[ee]at mr ⊢
      exact (hv _ py).shut hR mr
   ·refine .isl (us:=fun _=>undef) (Nat.le_refl 0) (by simp[maxLen]) (fun j hj=>?_) fun j hj=>?_
    ·simp at hj
    ·simp at hj
  | _=>exact .any _
 ·have:Yt s v=v:=by
   cases v<;>first|rfl|exact absurd ⟨_,_,_,_,_,rfl⟩ hs
  rw[this]at hn ⊢
  exact h.shut hR hn
theorem I6 {g:Nat→GM} {s:FS} {a:Act} {w:World} (hR:R c g s a w) {v:AV} {u:Value} (h:VR g (Qo c g s) w v u) (hn:Qe 0 (Ze s v)):VR (fun _=>.un) c.X w (Ze s v) u:=by
 by_cases hs:∃ cs,v=.agg cs
 ·obtain ⟨cs,rfl⟩:=hs
  simp only[Ze]at hn ⊢
  simp only[Qe]at hn
  obtain ⟨us,rfl,h1,h2,h3⟩:=Ub h
  refine .agg (by simpa using h1) (fun j hj=>h2 j (by simpa using hj)) fun j hj=>?_
  have cU:j < cs.length:=by simpa using hj
  have ee:(cs.map (Yt s)).getD j .any=Yt s (cs.getD j .any):=by simp[List.getD,cU]
  have mr:=Zv hn j
  rw[ee]at mr ⊢
  exact P7 hR (h3 j cU) mr
 ·have:Ze s v=Yt s v:=by
   cases v<;>first|rfl|exact absurd ⟨_,rfl⟩ hs
  rw[this]at hn ⊢
  exact P7 hR h hn
theorem Yc9 {g:Nat→GM} {s:FS} {a:Act} {w:World} (hR:R c g s a w) {v:AV} {u:Value} (h:VR g (Qo c g s) w v u) (hn:Qe 0 (fZ s v)):VR (fun _=>.un) c.X w (fZ s v) u:=by
 by_cases hs:∃ cs,v=.aU cs
 ·obtain ⟨cs,rfl⟩:=hs
  simp only[fZ]at hn ⊢
  simp only[Qe]at hn
  obtain ⟨us,rfl,h1,h3⟩:=Bw h
  refine .aU (by simpa using h1) fun j hj=>?_
  have cU:j < cs.length:=by simpa using hj
  have ee:(cs.map (Ze s)).getD j .any=Ze s (cs.getD j .any):=by simp[List.getD,cU]
  have mr:=Zv hn j
  rw[ee]at mr ⊢
  exact I6 hR (h3 j cU) mr
 ·have:fZ s v=Ze s v:=by
   cases v<;>first|rfl|exact absurd ⟨_,rfl⟩ hs
  rw[this]at hn ⊢
  exact I6 hR h hn
theorem Ybh {w:World} {vs:List Value} {args:List AV} {N:Nat} (hN:args.length≤N) {X:Nat→Prop} {gl:Nat→AV} (hX:∀ k,X k→k < w.heap.size) (jt:∀ i,VR (fun _=>.un) X w (gl i) (.pointer (some ⟨i,0,none⟩)))
  (hv:bO (fun _=>.un) X w args vs):R ⟨N,w,fun _=>False,X,gl,[]⟩ (fun _=>.un) (⟨js 0 args,[],0⟩:St).fs { tmps:=vs.toArray++Array.replicate (N - vs.toArray.size) undef,defers:=[] } w:=by
 have hl:=hv.length
 have hH:∀ b,(⟨js 0 args,[],0⟩:St).fs.H b=.free:=fun b=>by
  show Qc [] 0 b=.free
  rcases Zs [] 0 b with h|⟨p,hp,_⟩
  ·rw[h];simp
  ·cases hp
 have hW:∀ k,Qo ⟨N,w,fun _=>False,X,gl,[]⟩ (fun _=>.un) (⟨js 0 args,[],0⟩:St).fs k→X k:=by
  rintro k (h|⟨b,h1,_⟩)
  ·exact h
  ·rw[hH]at h1;exact h1.elim
 have kT:∀ {v u},VR (fun _=>.un) X w v u→VR (fun _=>.un) (Qo ⟨N,w,fun _=>False,X,gl,[]⟩ (fun _=>.un) (⟨js 0 args,[],0⟩:St).fs) w v u:=fun h=>h.mono (Fr.refl _ _) (fun k _=>hW k) (fun _ _=>rfl)
 refine ⟨by simp;omega,rfl,fun i=>?_,fun i=>kT (jt i),fun b=>by rw[hH];exact .free,fun b b' k h=>by rw[hH]at h;exact h.elim,fun b k h=>by rw[hH]at h;exact h.elim,Fr.refl _ _,fun k hk=>⟨hX k hk,id⟩,fun p hp=>by cases hp⟩
 show VR _ _ w (look (js 0 args) i) _
 rw[I2]
 split
 ·rename_i h
  have hi:i < vs.length:=by omega
  have:=hv.get i af
  have e:(vs.toArray++Array.replicate (N - vs.toArray.size) undef).getD i undef=vs.getD i undef:=by
   simp only[Array.getD_eq_getD_getElem?,List.getD]
   rw[Array.getElem?_append_left (by simpa using hi)]
   simp
  rw[e]
  simpa using kT this
 ·exact .any _
theorem Xwc {gl : Nat → AV} {f : FuncId} {fn : Func} {code : Code} {t : TC} {rs : List RS} {args : List AV} {r : AV} (hm : P.follows .mixedOrders = true) (hf : P.funcs[f]? = some fn) (hb : fn.body = some code) (dW : (fn.name == "runtime.NumGoroutine") = false)
  (he:Jf P fn.ntmps code=some t) (hr:m8 P fn.results.toList=some rs) (hN:args.length≤fn.ntmps) (fc:Qe 0 r)
  (h:∀ c:Cx,c.gh=[]→c.gl=gl→xw P c t (BO rs r) ⟨js 0 args,[],0⟩):PS P gl f args r:=by
 refine ⟨⟨fn,hf,by rw[hb];rfl,dW⟩,fun w vs X hX jt hv=>?_⟩
 refine calls_of_wp hf hb ?_
 have hR:=Ybh hN hX jt hv
 have:=vn (c:=⟨fn.ntmps,w,fun _=>False,X,gl,[]⟩) hm code t _ _ he (h _ rfl rfl) _ _ _ hR
 refine wp_mono this fun e a' w' hq=>?_
 have fin:∀ (g:Nat→GM) (s:St),R ⟨fn.ntmps,w,fun _=>False,X,gl,[]⟩ g s.fs a' w'→(Wt s.fs rs∧fZ s.fs (fY s.fs rs)=r)→a'.defers=[]∧∃ v,(results fn a'.tmps).run P w'=.ok v w'∧(∃ nc,Ending.returned v=.returned nc∧VR (fun _=>.un) X w' r nc∧Fr w w' fun _=>False):=by
  intro g s bg ⟨h1,h2⟩
  obtain ⟨v,h3,h4⟩:=BQ bg hr h1
  refine ⟨bg.dL,v,h3,v,rfl,?_,bg.fr⟩
  rw[← h2]at fc ⊢
  exact Yc9 bg h4 fc
 cases e with
 | normal=>obtain ⟨g,s,bg,cF⟩:=hq;exact fin g s bg cF
 | ret=>obtain ⟨g,s,bg,cF⟩:=hq;exact fin g s bg cF
 | exit i=>obtain ⟨g,s,bg,cF⟩:=hq;exact cF.elim
 | goto l=>exact hq.elim
 | panic ch=>exact hq.elim
 | outgrown=>exact hq.elim
theorem wV {o:Oper} {f:FuncId} {xs:List Operand} (h:Yf P o=some (.call f,xs)):∃ ts,o.op=.call ⟨.value (.func f),xs.toArray,ts⟩:=by
 unfold Yf at h
 repeat' split at h
 all_goals first
  | (simp only[Option.some.injEq,Prod.mk.injEq,PK.call.injEq]at h;obtain ⟨rfl,rfl⟩:=h;rename_i bl;exact ⟨_,by rw[bl]⟩)
  | (simp at h;done)
  | (cases h;done)
  | (simp[Option.map_eq_some_iff]at h;done)
theorem wW {f:FuncId} (hc:zD P f) {o:Oper} {xs:List Operand} {ts:Array TypeId} (ho:o.op=.call ⟨.value (.func f),xs.toArray,ts⟩) (a:Act) (w:World) :
  (execOp a.eval o).run P w=.ok (.enter f (xs.map a.eval).toArray) w:=by
 obtain ⟨fn,h1,h2,h3⟩:=hc
 have I7:fn.body≠none:=fun e=>by rw[e]at h2;cases h2
 have I8 : fn.name ≠ "runtime.NumGoroutine" := fun e => by rw [e] at h3; cases h3
 simp[execOp,ho,resolve,Act.eval,Deferred.ofValue,invoke,callFunc,program,Sem.run,h1,I7,I8]
theorem P8 {g g':Nat→GM} {W:Nat→Prop} {w:World} {n:Nat} (hg:∀ b,b < n→g b=g' b):∀ {xs:List AV} {vs:List Value},bO g W w xs vs→ai n xs→bO g' W w xs vs
 | [],[],_,_=>trivial
 | _::_,_::_,h,hn=>⟨h.1.nm hn.1 hg,P8 hg h.2 hn.2⟩
 | [],_::_,h,_=>h.elim
 | _::_,[],h,_=>h.elim
def Yz (d:Option Nat) (xs:List TV) (gd:Option (Nat × Bool)):bn:=⟨jo gd++Xr xs,[],d.toList,[]⟩
def St.bQ (s:St) (d:Option Nat) (v:AV):St :=
 match d with
 | some d=>s.put d v
 | none=>s
def Uh (gl:Nat→AV) (s:FS) (xs:List TV) (gd:Option (Nat × Bool)):Prop:=fE s gd∧Qv (gB s gd) (aG gl s xs)
theorem P9 {s:St} {d:Option Nat} {f:FuncId} {xs:List TV} {gd:Option (Nat × Bool)} {args:List AV} {r:AV} (aY:Uh c.gl s.fs xs gd) (aN:(aG c.gl s.fs xs).map Qk=args) (fc:ai 0 args)
  (ec:ob (gB s.fs gd) (PS P c.gl f args r)):Ky P c (.pd d (.call f) xs gd) s.fs (Yz d xs gd) (s.bQ d (cw (gB s.fs gd) r)).fs:=by
 intro ops io he
 obtain ⟨bf,bh,hd,ys,aJ,rfl⟩:=Zr he
 obtain ⟨ts,bl⟩:=wV aJ
 have eU:(s.bQ d (cw (gB s.fs gd) r)).fs=match d with|some d=>s.fs.put d (cw (gB s.fs gd) r)|none=>s.fs:=by
  cases d with
  | none=>rfl
  | some d=>exact St.bT _ _ _
 rw[eU]
 refine ⟨fun i hi=>?_,fun b _=>by cases d<;>rfl,?_⟩
 ·cases d with
  | none=>rfl
  | some d=>show (s.fs.put d _).T i=_;rw[FS.dg,if_neg (fun e=>hi (by simp[Yz,e]))]
 ·intro s2 hT hH g a w hR K Q' hK
  have bp:aG c.gl s2 (ys.map aT)=aG c.gl s.fs (ys.map aT):=Yi fun i hi=>hT i (by simp[Yz,hi])
  have hg:∀ t b,gd=some (t,b)→s2.T t=s.fs.T t:=fun t b e=>hT t (by simp[Yz,e,jo])
  have oz:gB s2 gd=gB s.fs gd:=by
   cases gd with
   | none=>rfl
   | some p=>obtain ⟨t,b⟩:=p;simp only[gB,hg t b rfl]
  have oA:fE s2 gd:=by
   have:=aY.1
   cases gd with
   | none=>exact this
   | some p=>obtain ⟨t,b⟩:=p;simpa only[fE,hg t b rfl] using this
  have lP:∀ v w',Fr w w' (fun _=>False)→VR g (Qo c g s2) w' (cw (gB s.fs gd) r) v→K (a.put io.dst v) w':=fun v w' hf hv=>by
   rw[bh]
   have bg:=hR.grow hf
   cases d with
   | none =>
    refine hK g _ w' ?_
    have:dj s2 s.fs (Yz none (ys.map aT) gd)=s2:=by unfold dj Yz;simp
    simp only[this];exact bg
   | some d =>
    refine hK g _ w' ?_
    show R c g (dj s2 (s.fs.put d _) ⟨jo gd++Xr (ys.map aT),[],[d],[]⟩) _ _
    rw[wP]
    exact bg.put (by simpa using hd) hv
  unfold mg
  rw[vi bf hR oA,oz]
  have run:(∀ b,gB s.fs gd=some b→b=true)→io.wp P a w K Q':=by
   intro hb
   have pA:Qv none (aG c.gl s2 (ys.map aT)):=by
    rw[bp]
    have:=aY.2
    cases ca:gB s.fs gd with
    | none=>rw[ca]at this;exact this
    | some b=>rw[ca]at this;exact zu (hb b ca) this
   have qn:PS P c.gl f args r:=by
    cases ca:gB s.fs gd with
    | none=>rw[ca]at ec;exact ec
    | some b=>rw[ca]at ec;exact ec (hb b ca)
   have hv:=Yn (hR.aG ys) pA
   rw[bp,aN]at hv
   have oh:bO (fun _=>.un) (Qo c g s2) w args (ys.map a.eval):=P8 (n:=0) (fun b hb=>absurd hb af) hv fc
   have hX:∀ k,Qo c g s2 k→k < w.heap.size:=by
    rintro k (h|⟨b',hl,fk⟩)
    ·have:=(hR.xs k h).1;have:=hR.fr.size;omega
    ·exact BR.lt (fk ▸ hR.h b') hl
   have cN:=qn.2 w _ _ hX (fun i=>(hR.gl i)) oh
   unfold Oper.wp
   rw[wW qn.1 bl]
   rw[Oper.upon_enter]
   refine cN.mono fun e w' ⟨v,e1,e2,e3⟩=>?_
   subst e1
   refine lP v w' e3 ?_
   have fL:VR g (Qo c g s2) w' r v:=e2.mono (Fr.refl _ _) (fun _ _ h=>h) (fun _ h=>absurd rfl h)
   cases ca:gB s.fs gd with
   | none=>exact fL
   | some b=>exact .dw (fun _=>fL) fun h=>by rw[hb b ca]at h;cases h
  cases ca:gB s.fs gd with
  | none=>simp only[Option.getD_none,if_true];exact run fun b h=>by rw[ca]at h;cases h
  | some b =>
   cases b with
   | true=>simp only[Option.getD_some,if_true];exact run fun b h=>by rw[ca]at h;cases h;rfl
   | false =>
    simp only[Option.getD_some,Bool.false_eq_true,if_false]
    refine lP undef w (Fr.refl _ _) ?_
    rw[ca]
    exact .dw (fun h=>by cases h) fun _=>rfl
theorem Yf4 {r0:List bG} {K:St→Prop} {s:St} {d:Option Nat} {f:FuncId} {xs:List TV} {gd:Option (Nat × Bool)} {args:List AV} {r:AV} (ec:ob (gB s.fs gd) (PS P c.gl f args r)) (aN:(aG c.gl s.fs xs).map Qk=args)
  (aY:Uh c.gl s.fs xs gd∧ai 0 args∧XP P c r0 K (s.bQ d (cw (gB s.fs gd) r))):Yh P c (.pd d (.call f) xs gd) r0 K s :=
 .inl ⟨_,_,P9 aY.1 aN aY.2.1 ec,aY.2.2⟩
theorem Ydo {anc:List Nat} {fs:List bn} {r0:List bG} {K:St→Prop} {s:St} {d:Option Nat} {f:FuncId} {xs:List TV} {gd:Option (Nat × Bool)} {args:List AV} {r:AV} (ec:ob (gB s.fs gd) (PS P c.gl f args r)) (aN:(aG c.gl s.fs xs).map Qk=args)
  (aY:Uh c.gl s.fs xs gd∧ai 0 args∧XD P c anc r0 (Yz d xs gd::fs) K (s.bQ d (cw (gB s.fs gd) r))):Zm P c anc (.pd d (.call f) xs gd) r0 fs K s :=
 ⟨_,_,P9 aY.1 aN aY.2.1 ec,aY.2.2⟩
structure FT (P:Program) (f:FuncId) (fn:Func) (t:TC) (rs:List RS):Prop where
 func:P.funcs[f]?=some fn
 code:fn.body.bind (Jf P fn.ntmps)=some t
 res:m8 P fn.results.toList=some rs
 name : (fn.name == "runtime.NumGoroutine") = false
 mixed:P.follows .mixedOrders=true
def aQ (P:Program) (fn:Func):TC:=(fn.body.bind (Jf P fn.ntmps)).getD .skip
theorem Xy6 {α:Type} {o:Option α} (d:α) (h:o.isSome=true):o=some (o.getD d):=by
 cases o with
 | none=>cases h
 | some x=>rfl
theorem FT.of {P : Program} {f : FuncId} {fn : Func} {rs : List RS} (h1 : P.funcs[f]? = some fn) (h2 : (fn.body.bind (Jf P fn.ntmps)).isSome = true := by kernel_rfl) (h3 : m8 P fn.results.toList = some rs := by kernel_rfl) (h4 : (fn.name == "runtime.NumGoroutine") = false := by kernel_rfl) (h5 : P.follows .mixedOrders = true := by kernel_rfl) : FT P f fn (aQ P fn) rs :=
 ⟨h1,Xy6 _ h2,h3,h4,h5⟩
theorem FT.ps {gl:Nat→AV} {f:FuncId} {fn:Func} {t:TC} {rs:List RS} (hF:FT P f fn t rs) {args:List AV} {r:AV} (hN:args.length≤fn.ntmps) (fc:Qe 0 r)
  (h:∀ c:Cx,c.gh=[]→c.gl=gl→xw P c t (BO rs r) ⟨js 0 args,[],0⟩):PS P gl f args r:=by
 have hc:=hF.code
 cases hb:fn.body with
 | none=>rw[hb]at hc;simp at hc
 | some code =>
  rw[hb]at hc
  exact Xwc hF.mixed hF.func hb hF.name hc hF.res hN fc h
end
def I9 (n es o:Nat):Bk→AV
 | .cells cs=>.isl n ((cs.drop o).take (n * es))
 | _=>.any
def JA (s:FS):Option Nat→Bk
 | some b=>s.H b
 | none=>.free
def JB:AV→Bool→Option Bool
 | .bool b,w=>some (b == w)
 | .dw c (.bool b),w=>some (c && (b == w))
 | _,_=>some false
def BS:AV→Prop
 | .bool _=>True
 | .dw _ (.bool _)=>True
 | _=>False
def JC:Bk→TY→Nat→AV→Prop
 | .cells cs,ty,o,v=>zw ty cs o v
 | _,_,_,_=>False
def Fo:Bk→TY→Nat→AV
 | .cells cs,ty,o=>wr ty cs o
 | _,_,_=>.any
def JD (s:FS) (ty:TY):AV→AV
 | .ptr b o=>Fo (s.H b) ty o
 | _=>.any
def Fp:Bk→TY→Nat→Prop
 | .cells cs,ty,o=>j5 ty cs o
 | _,_,_=>False
def JE (s:FS) (ty:TY):AV→Prop
 | .ptr b o=>Fp (s.H b) ty o
 | _=>False
theorem Xf3 (n es o:Nat) (cs:List AV):I9 n es o (.cells cs)=.isl n ((cs.drop o).take (n * es)):=rfl
theorem Yfq (s:St) (i:Nat):s.fs.T i=look s.t i:=rfl
theorem Yft (s:St) (i:Nat):s.fs.H i=Qc s.h s.n i:=rfl
theorem Xq4 (b:Bool):(b == true)=b:=by cases b<;>rfl
theorem Xi8 (b:Bool):(b == false)=!b:=by cases b<;>rfl
theorem Yc2 (b:Bool):(true != b)=!b:=by cases b<;>rfl
theorem Ydx (b:Bool):(false != b)=b:=by cases b<;>rfl
theorem Qv1 (b c:Bool):((b && c)=true→b=true)=True:=by cases b<;>simp
theorem Yd2 (b:Bool):(bif b then true else false)=b:=by cases b<;>rfl
theorem Ydg (b c:Bool):(bif b then true else c)=(b || c):=by cases b<;>rfl
theorem Yar (b c:Bool):(bif b then c else false)=(b && c):=by cases b<;>rfl
theorem Fq (n j:Nat):Qc [] n j=if j < n then .dead else .free:=rfl
theorem Xa3 (i:Nat) (v:Bk) (l:List (Nat × Bk)) (n j:Nat):Qc ((i,v)::l) n j=bif i == j then v else Qc l n j:=rfl
theorem Xsc (j:Nat):look [] j=.any:=rfl
theorem Xdz (i:Nat) (v:AV) (l:List (Nat × AV)) (j:Nat):look ((i,v)::l) j=bif i == j then v else look l j:=rfl
theorem Qzn (k:IntKind) (n:Int):Qk (.int k n)=(.int k n):=rfl
theorem Xq9 (g:Option Bool) (k:IntKind) (n:Int):eP g (.int k n)=True:=rfl
theorem Qyj (k:IntKind) (n:Int):Kf (.int k n)=[.int k n]:=rfl
theorem Xe7 (s:FS) (k:IntKind) (n:Int):Ze s (.int k n)=Yt s (.int k n):=rfl
theorem Xgx (s:FS) (k:IntKind) (n:Int):Yt s (.int k n)=(.int k n):=rfl
theorem Xld (s:FS) (k:IntKind) (n:Int):fZ s (.int k n)=Ze s (.int k n):=rfl
theorem Xmh (k:IntKind) (n:Int):one (.int k n)=True:=rfl
theorem Xh1 (k:IntKind) (n:Int):kv (.int k n)=True:=rfl
theorem Qub (k:IntKind) (n:Int) (r:List AV):Jt ((.int k n)::r)=none:=rfl
theorem Xhs (m:Nat) (k:IntKind) (n:Int):Qe m (.int k n)=True:=by simp only[Qe]
theorem Xks (ρ:Nat→Nat) (k:IntKind) (n:Int):aE ρ (.int k n)=(.int k n):=by simp only[aE]
theorem Quz (b:Bool):Qk (.bool b)=(.bool b):=rfl
theorem Xfu (g:Option Bool) (b:Bool):eP g (.bool b)=True:=rfl
theorem Qta (b:Bool):Kf (.bool b)=[.bool b]:=rfl
theorem Xaa (s:FS) (b:Bool):Ze s (.bool b)=Yt s (.bool b):=rfl
theorem Xab (s:FS) (b:Bool):Yt s (.bool b)=(.bool b):=rfl
theorem Xhq (s:FS) (b:Bool):fZ s (.bool b)=Ze s (.bool b):=rfl
theorem Xf1 (b:Bool):one (.bool b)=True:=rfl
theorem Xa0 (b:Bool):kv (.bool b)=True:=rfl
theorem Qsy (b:Bool) (r:List AV):Jt ((.bool b)::r)=none:=rfl
theorem Qyv (m:Nat) (b:Bool):Qe m (.bool b)=True:=by simp only[Qe]
theorem Xdi (ρ:Nat→Nat) (b:Bool):aE ρ (.bool b)=(.bool b):=by simp only[aE]
theorem Qz9 (l:List UInt8):Qk (.str l)=(.str l):=rfl
theorem Xqe (g:Option Bool) (l:List UInt8):eP g (.str l)=True:=rfl
theorem Qvj (l:List UInt8):Kf (.str l)=[.str l]:=rfl
theorem Xf2 (s:FS) (l:List UInt8):Ze s (.str l)=Yt s (.str l):=rfl
theorem Xgp (s:FS) (l:List UInt8):Yt s (.str l)=(.str l):=rfl
theorem Xqd (s:FS) (l:List UInt8):fZ s (.str l)=Ze s (.str l):=rfl
theorem Xkm (l:List UInt8):one (.str l)=True:=rfl
theorem Xiy (l:List UInt8):kv (.str l)=True:=rfl
theorem Qu3 (l:List UInt8) (r:List AV):Jt ((.str l)::r)=none:=rfl
theorem Xfv (m:Nat) (l:List UInt8):Qe m (.str l)=True:=by simp only[Qe]
theorem Xnj (ρ:Nat→Nat) (l:List UInt8):aE ρ (.str l)=(.str l):=by simp only[aE]
theorem Qz3 (cs:List AV):Qk (.agg cs)=(.agg cs):=rfl
theorem Xn7 (g:Option Bool) (cs:List AV):eP g (.agg cs)=True:=rfl
theorem Xe1 (s:FS) (cs:List AV):Yt s (.agg cs)=(.agg cs):=rfl
theorem Xjo (s:FS) (cs:List AV):fZ s (.agg cs)=Ze s (.agg cs):=rfl
theorem Qv3 (cs:List AV) (r:List AV):Jt ((.agg cs)::r)=none:=rfl
theorem Xal (cs:List AV):Qk (.aU cs)=(.aU cs):=rfl
theorem Xr4 (g:Option Bool) (cs:List AV):eP g (.aU cs)=True:=rfl
theorem Qu2 (cs:List AV):Kf (.aU cs)=[.aU cs]:=rfl
theorem Xfj (s:FS) (cs:List AV):Ze s (.aU cs)=Yt s (.aU cs):=rfl
theorem Xge (s:FS) (cs:List AV):Yt s (.aU cs)=(.aU cs):=rfl
theorem Qu4 (cs:List AV) (r:List AV):Jt ((.aU cs)::r)=none:=rfl
theorem Xb3 (b o:Nat):Qk (.ptr b o)=(.ptr b o):=rfl
theorem Xob (g:Option Bool) (b o:Nat):eP g (.ptr b o)=True:=rfl
theorem Qx3 (b o:Nat):Kf (.ptr b o)=[.ptr b o]:=rfl
theorem Xgo (s:FS) (b o:Nat):Ze s (.ptr b o)=Yt s (.ptr b o):=rfl
theorem Xdf (s:FS) (b o:Nat):Yt s (.ptr b o)=(.ptr b o):=rfl
theorem Xjz (s:FS) (b o:Nat):fZ s (.ptr b o)=Ze s (.ptr b o):=rfl
theorem Xpu (b o:Nat):one (.ptr b o)=True:=rfl
theorem Xhd (b o:Nat):kv (.ptr b o)=True:=rfl
theorem Xfi (cs:List AV) (o:Nat):Qk (.xp cs o)=(.xp cs o):=rfl
theorem Xtw (g:Option Bool) (cs:List AV) (o:Nat):eP g (.xp cs o)=True:=rfl
theorem Xaq (cs:List AV) (o:Nat):Kf (.xp cs o)=[.xp cs o]:=rfl
theorem Xp8 (s:FS) (cs:List AV) (o:Nat):Ze s (.xp cs o)=Yt s (.xp cs o):=rfl
theorem Xjy (s:FS) (cs:List AV) (o:Nat):Yt s (.xp cs o)=(.xp cs o):=rfl
theorem Xwm (s:FS) (cs:List AV) (o:Nat):fZ s (.xp cs o)=Ze s (.xp cs o):=rfl
theorem Xte (cs:List AV) (o:Nat):one (.xp cs o)=True:=rfl
theorem Xoi (cs:List AV) (o:Nat):kv (.xp cs o)=True:=rfl
theorem Qyx (cs:List AV) (o:Nat) (r:List AV):Jt ((.xp cs o)::r)=none:=rfl
theorem Xdp (es b o n c:Nat):Qk (.sl es b o n c)=(.sl es b o n c):=rfl
theorem Xrk (g:Option Bool) (es b o n c:Nat):eP g (.sl es b o n c)=True:=rfl
theorem Xam (es b o n c:Nat):Kf (.sl es b o n c)=[.sl es b o n c]:=rfl
theorem Xku (s:FS) (es b o n c:Nat):Ze s (.sl es b o n c)=Yt s (.sl es b o n c):=rfl
theorem Xu1 (s:FS) (es b o n c:Nat):fZ s (.sl es b o n c)=Ze s (.sl es b o n c):=rfl
theorem Xx3 (es b o n c:Nat):one (.sl es b o n c)=True:=rfl
theorem Xmb (es b o n c:Nat):kv (.sl es b o n c)=True:=rfl
theorem Xa4 (n:Nat) (cs:List AV):Qk (.isl n cs)=(.isl n cs):=rfl
theorem Xkf (g:Option Bool) (n:Nat) (cs:List AV):eP g (.isl n cs)=True:=rfl
theorem Qtx (n:Nat) (cs:List AV):Kf (.isl n cs)=[.isl n cs]:=rfl
theorem Xfr (s:FS) (n:Nat) (cs:List AV):Ze s (.isl n cs)=Yt s (.isl n cs):=rfl
theorem Xfx (s:FS) (n:Nat) (cs:List AV):Yt s (.isl n cs)=(.isl n cs):=rfl
theorem Xnm (s:FS) (n:Nat) (cs:List AV):fZ s (.isl n cs)=Ze s (.isl n cs):=rfl
theorem Xr7 (n:Nat) (cs:List AV):one (.isl n cs)=True:=rfl
theorem Xec (n:Nat) (cs:List AV):kv (.isl n cs)=True:=rfl
theorem Qy2 (n:Nat) (cs:List AV) (r:List AV):Jt ((.isl n cs)::r)=none:=rfl
theorem Qwe:Qk .nils=.nils:=rfl
theorem Xft (g:Option Bool):eP g .nils=True:=rfl
theorem Qt6:Kf .nils=[.nils]:=rfl
theorem Qzw (s:FS):Ze s .nils=Yt s .nils:=rfl
theorem Qz8 (s:FS):Yt s .nils=.nils:=rfl
theorem Xgr (s:FS):fZ s .nils=Ze s .nils:=rfl
theorem Xdj:one .nils=True:=rfl
theorem Xa9:kv .nils=True:=rfl
theorem Qt5 (r:List AV):Jt (.nils::r)=none:=rfl
theorem Qyp (m:Nat):Qe m .nils=True:=by simp only[Qe]
theorem Xew (ρ:Nat→Nat):aE ρ .nils=.nils:=by simp only[aE]
theorem Xgg (f:FuncId) (cs:List AV):Qk (.cl f cs)=(.cl f cs):=rfl
theorem Xrp (g:Option Bool) (f:FuncId) (cs:List AV):eP g (.cl f cs)=True:=rfl
theorem Xay (f:FuncId) (cs:List AV):Kf (.cl f cs)=[.cl f cs]:=rfl
theorem Xnf (s:FS) (f:FuncId) (cs:List AV):Ze s (.cl f cs)=Yt s (.cl f cs):=rfl
theorem Xkq (s:FS) (f:FuncId) (cs:List AV):Yt s (.cl f cs)=(.cl f cs):=rfl
theorem Xu6 (s:FS) (f:FuncId) (cs:List AV):fZ s (.cl f cs)=Ze s (.cl f cs):=rfl
theorem Xtz (f:FuncId) (cs:List AV):one (.cl f cs)=True:=rfl
theorem Xre (f:FuncId) (cs:List AV):kv (.cl f cs)=True:=rfl
theorem Qz7 (f:FuncId) (cs:List AV) (r:List AV):Jt ((.cl f cs)::r)=none:=rfl
theorem Xdm (b:Nat):Qk (.mp b)=(.mp b):=rfl
theorem Xtr (g:Option Bool) (b:Nat):eP g (.mp b)=True:=rfl
theorem Qyn (b:Nat):Kf (.mp b)=[.mp b]:=rfl
theorem Xpw (s:FS) (b:Nat):Ze s (.mp b)=Yt s (.mp b):=rfl
theorem Xma (s:FS) (b:Nat):Yt s (.mp b)=(.mp b):=rfl
theorem Xrn (s:FS) (b:Nat):fZ s (.mp b)=Ze s (.mp b):=rfl
theorem Xw0 (b:Nat):one (.mp b)=True:=rfl
theorem Xpx (b:Nat):kv (.mp b)=True:=rfl
theorem Xb8 (v:Value):Qk (.lit v)=(.lit v):=rfl
theorem Xls (g:Option Bool) (v:Value):eP g (.lit v)=True:=rfl
theorem Qty (v:Value):Kf (.lit v)=[.lit v]:=rfl
theorem Xhp (s:FS) (v:Value):Ze s (.lit v)=Yt s (.lit v):=rfl
theorem Xhk (s:FS) (v:Value):Yt s (.lit v)=(.lit v):=rfl
theorem Xod (s:FS) (v:Value):fZ s (.lit v)=Ze s (.lit v):=rfl
theorem Qw7 (v:Value) (r:List AV):Jt ((.lit v)::r)=none:=rfl
theorem Xj0 (m:Nat) (v:Value):Qe m (.lit v)=True:=by simp only[Qe]
theorem Xnb (ρ:Nat→Nat) (v:Value):aE ρ (.lit v)=(.lit v):=by simp only[aE]
theorem Qzs:Qk .any=.any:=rfl
theorem Xlo (g:Option Bool):eP g .any=True:=rfl
theorem Qx1:Kf .any=[.any]:=rfl
theorem Xhm (s:FS):Ze s .any=Yt s .any:=rfl
theorem Xh4 (s:FS):Yt s .any=.any:=rfl
theorem Xjg (s:FS):fZ s .any=Ze s .any:=rfl
theorem Qxa (r:List AV):Jt (.any::r)=none:=rfl
theorem Xf0 (m:Nat):Qe m .any=True:=by simp only[Qe]
theorem Xj4 (ρ:Nat→Nat):aE ρ .any=.any:=by simp only[aE]
theorem Xak (b:Bool) (v:AV):Qk (.dw b v)=v:=rfl
theorem Xla (g:Option Bool) (b:Bool) (v:AV):eP g (.dw b v)=ob g (b=true):=rfl
theorem Qv2 (cs:List AV):Kf (.agg cs)=cs:=rfl
theorem Xmx (s:FS) (es b o n c:Nat):Yt s (.sl es b o n c)=I9 n es o (s.H b):=by simp only[Yt,I9]<;>(generalize s.H b=x;cases x<;>rfl)
theorem Xgh (s:FS) (cs:List AV):Ze s (.agg cs)=.agg (cs.map (Yt s)):=rfl
theorem Xno (s:FS) (cs:List AV):fZ s (.aU cs)=.aU (cs.map (Ze s)):=rfl
theorem Xfe (cs:List AV):kv (.agg cs)=True:=rfl
theorem Xdu:one (.lit (.pointer none))=True:=by simp[one,Value.oneCell']
theorem Xga:one (.lit (.map none))=True:=by simp[one,Value.oneCell']
theorem Qxw (b o:Nat) (r:List AV):Jt (.ptr b o::r)=some b:=rfl
theorem Xaf (es b o n c:Nat) (r:List AV):Jt (.sl es b o n c::r)=some b:=rfl
theorem Xb7 (b:Nat) (r:List AV):Jt (.mp b::r)=some b:=rfl
theorem Qxn:Jt []=none:=rfl
theorem Xdn (s:FS) (l:List AV):qj s l=JA s (Jt l):=by simp only[qj];generalize Jt l=x;cases x<;>rfl
theorem Qzd (s:FS) (b:Nat):JA s (some b)=s.H b:=rfl
theorem Xai (s:FS):JA s none=.free:=rfl
theorem Xp5 (k:IntKind) (n:Int):bB (.int k n)=n:=rfl
theorem Xfa (b:Bool):eL (.bool b)=b:=rfl
theorem Xm6 (l:List UInt8):cL (.str l)=l:=rfl
theorem Xp6 (k:IntKind) (n:Int):bZ k (.int k n)=True:=by simp[bZ]
theorem Xps (k:IntKind) (n:Int):fK (.int k n)=True:=by simp[fK]
theorem Xdv (b:Bool):fh (.bool b)=True:=by simp[fh]
theorem Xoe (l:List UInt8):fB (.str l)=True:=by simp[fB]
theorem Xrd (p:Prop):ob none p=p:=rfl
theorem Xm9 (b:Bool) (p:Prop):ob (some b) p=(b=true→p):=rfl
theorem Xrf (v:AV):cw none v=v:=rfl
theorem Xq5 (b:Bool) (v:AV):cw (some b) v=.dw b v:=rfl
theorem Xoh (s:FS):gB s none=none:=rfl
theorem Xjr (s:FS) (t:Nat) (w:Bool):gB s (some (t,w))=JB (s.T t) w:=by simp only[gB];generalize s.T t=x;rcases x with _|⟨_,y⟩|_|_|_|_|_|_|_|_|_|_|_|_|_<;>first|rfl|(cases y<;>rfl)
theorem Xj2 (b w:Bool):JB (.bool b) w=some (b == w):=rfl
theorem Xjc (c b w:Bool):JB (.dw c (.bool b)) w=some (c && (b == w)):=rfl
theorem Xgw (s:FS):fE s none=True:=by simp[fE]
theorem Xfz (s:FS) (t:Nat) (w:Bool):fE s (some (t,w))=BS (s.T t):=by simp only[fE];generalize s.T t=x;rcases x with _|⟨_,y⟩|_|_|_|_|_|_|_|_|_|_|_|_|_<;>first|rfl|(cases y<;>rfl)
theorem Xae (b:Bool):BS (.bool b)=True:=by simp[BS]
theorem Xhy (c b:Bool):BS (.dw c (.bool b))=True:=by simp[BS]
theorem Xop (k:IntKind) (v:AV):wH (.int k) v=.int k (bB v):=rfl
theorem Xf8 (v:AV):wH .bool v=.bool (eL v):=rfl
theorem Xo8 (v:AV):wH .str v=.str (cL v):=rfl
theorem Xq3 (v:AV):wH .ref v=v:=rfl
theorem Xon (k:IntKind) (v:AV):tB (.int k) v=bZ k v:=rfl
theorem Xi5 (v:AV):tB .bool v=fh v:=rfl
theorem Xr5 (v:AV):tB .str v=fB v:=rfl
theorem Xpv (v:AV):tB .ref v=True:=rfl
theorem Yav (k:SK) (cs:List AV) (o:Nat):wr (.sc k) cs o=wH k (cs.getD o .any):=rfl
theorem Xyq (n:Nat) (cs:List AV) (o:Nat):wr (.ag n) cs o=.agg ((cs.drop o).take n):=rfl
theorem Xqj (k:SK) (cs:List AV) (o:Nat):j5 (.sc k) cs o=(o < cs.length∧tB k (cs.getD o .any)):=rfl
theorem Xmg (n:Nat) (cs:List AV) (o:Nat):j5 (.ag n) cs o=(o + n≤cs.length):=rfl
theorem Xp0 (k:SK) (cs:List AV) (o:Nat) (v:AV):tC (.sc k) cs o v=cs.set o v:=rfl
theorem Xju (n:Nat) (cs:List AV) (o:Nat) (vs:List AV):tC (.ag n) cs o (.agg vs)=Yx cs o vs:=rfl
theorem Xi3 (k:SK) (cs:List AV) (o:Nat) (v:AV):zw (.sc k) cs o v=(o < cs.length∧one v):=rfl
theorem Xha (n:Nat) (cs:List AV) (o:Nat) (vs:List AV):zw (.ag n) cs o (.agg vs)=(vs.length=n∧o + n≤cs.length):=rfl
theorem Xh5 (s:FS) (ty:TY) (b o:Nat) (v:AV):tI s ty (.ptr b o) v=JC (s.H b) ty o v:=by simp only[tI,JC];generalize s.H b=x;cases x<;>rfl
theorem Qt2 (cs:List AV) (ty:TY) (o:Nat) (v:AV):JC (.cells cs) ty o v=zw ty cs o v:=rfl
theorem Xg5 (b o:Nat):je (.ptr b o)=b:=rfl
theorem Xed (b o:Nat):vj (.ptr b o)=o:=rfl
theorem Qr1 (cs:List AV):Zb (.cells cs)=cs:=rfl
theorem Yc7 (s:FS) (i:Nat):rv s (.t i)=s.T i:=rfl
theorem Xlt (s:FS) (a:Nat) (ty:TY):rv s (.cell a ty)=JD s ty (s.T a):=by simp only[rv];generalize s.T a=x;cases x<;>first|rfl|(simp only[JD,Fo];generalize s.H _=y;cases y<;>rfl)
theorem Xqk (s:FS) (ty:TY) (b o:Nat):JD s ty (.ptr b o)=Fo (s.H b) ty o:=rfl
theorem Xas (cs:List AV) (ty:TY) (o:Nat):Fo (.cells cs) ty o=wr ty cs o:=rfl
theorem Xet (v:AV):aE (rl []) v=v:=ql _ (fun _=>rfl) v
theorem QA (l:List AV):az (rl []) l=l:=by rw[Yu];exact (List.map_congr_left fun x _=>ql _ (fun _=>rfl) x).trans (List.map_id l)
theorem Xag (cs:List AV):Xg (rl []) (.cells cs)=.cells cs:=by simp only[Xg,QA]
theorem Xuu (b:Nat):rl [] b=b:=rfl
theorem Xpm (i j:Nat) (r:List (Nat × Nat)) (b:Nat):rl ((i,j)::r) b=bif i == b then j else rl r b:=rfl
theorem Xr6 (ρ:Nat→Nat) (cs:List AV):aE ρ (.agg cs)=.agg (az ρ cs):=by simp only[aE]
theorem Xok (ρ:Nat→Nat) (cs:List AV):aE ρ (.aU cs)=.aU (az ρ cs):=by simp only[aE]
theorem Xuh (ρ:Nat→Nat) (cs:List AV) (o:Nat):aE ρ (.xp cs o)=.xp (az ρ cs) o:=by simp only[aE]
theorem Xne (ρ:Nat→Nat) (n:Nat) (cs:List AV):aE ρ (.isl n cs)=.isl n (az ρ cs):=by simp only[aE]
theorem Xqs (ρ:Nat→Nat) (b o:Nat):aE ρ (.ptr b o)=.ptr (ρ b) o:=by simp only[aE]
theorem Xsu (ρ:Nat→Nat) (es b o n c:Nat):aE ρ (.sl es b o n c)=.sl es (ρ b) o n c:=by simp only[aE]
theorem Xs2 (ρ:Nat→Nat) (b:Nat):aE ρ (.mp b)=.mp (ρ b):=by simp only[aE]
theorem Xs0 (ρ:Nat→Nat) (f:FuncId) (cs:List AV):aE ρ (.cl f cs)=.cl f (az ρ cs):=by simp only[aE]
theorem Xf4 (m:Nat) (cs:List AV):Qe m (.agg cs)=ai m cs:=by simp only[Qe]
theorem Xgj (m:Nat) (cs:List AV):Qe m (.aU cs)=ai m cs:=by simp only[Qe]
theorem Xmf (m o:Nat) (cs:List AV):Qe m (.xp cs o)=ai m cs:=by simp only[Qe]
theorem Xfd (m n:Nat) (cs:List AV):Qe m (.isl n cs)=ai m cs:=by simp only[Qe]
theorem Xr2 (m f:Nat) (cs:List AV):Qe m (.cl f cs)=ai m cs:=by simp only[Qe]
theorem Xdc (m b o:Nat):Qe m (.ptr b o)=(b < m):=by simp only[Qe]
theorem Xlm (m es b o n c:Nat):Qe m (.sl es b o n c)=(b < m):=by simp only[Qe]
theorem Xjd (m b:Nat):Qe m (.mp b)=(b < m):=by simp only[Qe]
theorem Xda (s:FS):Wt s []=True:=by simp[Wt]
theorem Xta (s:FS) (i:Nat) (r:List RS):Wt s (.t i::r)=Wt s r:=rfl
theorem Qys (s:FS) (a:Nat) (ty:TY) (r:List RS):Wt s (.cell a ty::r)=(JE s ty (s.T a)∧Wt s r):=by simp only[Wt];congr 1;generalize s.T a=x;cases x<;>first|rfl|(simp only[JE,Fp];generalize s.H _=y;cases y<;>rfl)
theorem Qzg (s:FS) (ty:TY) (b o:Nat):JE s ty (.ptr b o)=Fp (s.H b) ty o:=rfl
theorem Qsx (cs:List AV) (ty:TY) (o:Nat):Fp (.cells cs) ty o=j5 ty cs o:=rfl
theorem Xkn (s:FS) (x:RS):fY s [x]=rv s x:=rfl
theorem Xlp (s:FS) (x y:RS) (l:List RS):fY s (x::y::l)=.aU (rv s x::rv s y::l.map (rv s)):=rfl
theorem Qyy (rs:List RS) (r:AV) (s:St):BO rs r .ret s=(Wt s.fs rs∧fZ s.fs (fY s.fs rs)=r):=rfl
theorem Qqz (rs:List RS) (r:AV) (s:St):BO rs r .normal s=(Wt s.fs rs∧fZ s.fs (fY s.fs rs)=r):=rfl
theorem Qwi (rs:List RS) (r:AV) (i:Nat) (s:St):BO rs r (.exit i) s=False:=rfl
theorem Qop (i:Nat) (Q:EX→St→Prop) (s:St):zB i Q .normal s=Q .normal s:=rfl
theorem Qy8 (i:Nat) (Q:EX→St→Prop) (s:St):zB i Q .ret s=Q .ret s:=rfl
theorem Qt9 (i j:Nat) (Q:EX→St→Prop) (s:St):zB i Q (.exit j) s=if j=i then Q .normal s else Q (.exit j) s:=rfl
theorem Qra {σ:Type} (I:σ→Prop) (cY:σ→St) (μ:σ→Nat) (x:σ) (Q:EX→St→Prop) (s:St):Fk I cY μ x Q .normal s=∃ y,I y∧(∃ ρ,Sub (rl ρ) s (cY y))∧μ y < μ x:=rfl
theorem Qzb {σ:Type} (I:σ→Prop) (cY:σ→St) (μ:σ→Nat) (x:σ) (Q:EX→St→Prop) (s:St):Fk I cY μ x Q .ret s=Q .ret s:=rfl
theorem Qu1 {σ:Type} (I:σ→Prop) (cY:σ→St) (μ:σ→Nat) (x:σ) (Q:EX→St→Prop) (i:Nat) (s:St):Fk I cY μ x Q (.exit i) s=Q (.exit i) s:=rfl
theorem Yb2 (gl:Nat→AV) (s:FS) (i:Nat):aZ gl s (.t i)=s.T i:=rfl
theorem Xzf (gl:Nat→AV) (s:FS) (v:AV):aZ gl s (.c v)=v:=rfl
theorem Xrx (gl:Nat→AV) (s:FS) (i:Nat):aZ gl s (.gl i)=gl i:=rfl
theorem Xrc (gl:Nat→AV) (s:FS):aG gl s []=[]:=rfl
theorem Xig (gl:Nat→AV) (s:FS) (x:TV) (r:List TV):aG gl s (x::r)=aZ gl s x::aG gl s r:=rfl
theorem Xax (c:Option Bool) (x y z:AV):Jk c .pick [x,y,z]=(eP c x∧ob c (eL (Qk x)=true→eP none y)∧ob c (eL (Qk x)=false→eP none z)):=rfl
theorem Xrg (c:Option Bool) (l:List AV):Jk c .mv l=Qv c l:=rfl
theorem Xhu (c:Option Bool) (l:List AV):Jk c .not l=Qv c l:=rfl
theorem Xqf (c:Option Bool) (o:BinOp) (k:IntKind) (l:List AV):Jk c (.ar o k) l=Qv c l:=rfl
theorem Xlx (c:Option Bool) (o:BinOp) (k:IntKind) (l:List AV):Jk c (.dv o k) l=Qv c l:=rfl
theorem Xp4 (c:Option Bool) (o:BinOp) (k:IntKind) (l:List AV):Jk c (.bt o k) l=Qv c l:=rfl
theorem Xp7 (c:Option Bool) (o:BinOp) (k:IntKind) (l:List AV):Jk c (.sh o k) l=Qv c l:=rfl
theorem Xm2 (c:Option Bool) (o:BinOp) (k:IntKind) (l:List AV):Jk c (.cm o k) l=Qv c l:=rfl
theorem Xpg (c:Option Bool) (ne:Bool) (l:List AV):Jk c (.cB ne) l=Qv c l:=rfl
theorem Xpl (c:Option Bool) (ne:Bool) (l:List AV):Jk c (.cS ne) l=Qv c l:=rfl
theorem Xe6 (c:Option Bool) (l:List AV):Jk c .cat l=Qv c l:=rfl
theorem Xkr (c:Option Bool) (k:IntKind) (l:List AV):Jk c (.cv k) l=Qv c l:=rfl
theorem Xiq (c:Option Bool) (ty:TY) (off:Nat) (l:List AV):Jk c (.ze ty off) l=Qv c l:=rfl
theorem Xfh (c:Option Bool) (es len:Nat) (ty:TY) (l:List AV):Jk c (.vg es len ty) l=Qv c l:=rfl
theorem Xiz (c:Option Bool) (l:List AV):Jk c .zf l=Qv c l:=rfl
theorem Xac (c:Option Bool) (off:Nat) (l:List AV):Jk c (.jm off) l=Qv c l:=rfl
theorem Qtp (c:Option Bool) (len es:Nat) (l:List AV):Jk c (.ft len es) l=Qv c l:=rfl
theorem Qvd (c:Option Bool) (es:Nat) (l:List AV):Jk c (.fu es) l=Qv c l:=rfl
theorem Xlw (c:Option Bool) (ty:TY) (l:List AV):Jk c (.ld ty) l=Qv c l:=rfl
theorem Qyw (c:Option Bool) (l:List AV):Jk c .oc l=Qv c l:=rfl
theorem Xa7 (c:Option Bool) (l:List AV):Jk c .fV l=Qv c l:=rfl
theorem Qyt (c:Option Bool) (l:List AV):Jk c .od l=Qv c l:=rfl
theorem Xgv (c:Option Bool) (lo hi:Bool) (l:List AV):Jk c (.zg lo hi) l=Qv c l:=rfl
theorem Xh6 (c:Option Bool) (es:Nat) (lo hi:Bool) (l:List AV):Jk c (.og es lo hi) l=Qv c l:=rfl
theorem Xez (c:Option Bool) (i:Nat) (l:List AV):Jk c (.ext i) l=Qv c l:=rfl
theorem Quo (c:Option Bool) (l:List AV):Jk c .fW l=Qv c l:=rfl
theorem Xgq (c:Option Bool) (z:List AV) (ps:List (Nat × Nat)) (l:List AV):Jk c (.wJ z ps) l=Qv c l:=rfl
theorem Xff (c:Option Bool) (f:FuncId) (l:List AV):Jk c (.zh f) l=Qv c l:=rfl
theorem Xli (c:Option Bool) (k:IntKind) (l:List AV):Jk c (.mn k) l=Qv c l:=rfl
theorem Xlf (c:Option Bool) (k:IntKind) (l:List AV):Jk c (.mx k) l=Qv c l:=rfl
theorem Xaw (c:Option Bool) (ne:Bool) (l:List AV):Jk c (.eS ne) l=Qv c l:=rfl
theorem Xit (c:Option Bool) (l:List AV):Jk c .mZ l=Qv c l:=rfl
theorem Xxi (x:AV) (bk:Bk):qv .mv [x] bk=x:=rfl
theorem Yah (x:AV) (bk:Bk):qp .mv [x] bk=True:=by simp[qp]
theorem Xt3 (x:AV) (bk:Bk):qv .not [x] bk=.bool (!eL x):=rfl
theorem Xs1 (x:AV) (bk:Bk):qp .not [x] bk=fh x:=rfl
theorem Xn5 (c x y:AV) (bk:Bk):qv .pick [c,x,y] bk=.bool (bif eL c then eL x else eL y):=rfl
theorem Xom (c x y:AV) (bk:Bk):qp .pick [c,x,y] bk=(fh c∧(eL c=true→fh x)∧(eL c=false→fh y)):=rfl
theorem Xz9 (o:BinOp) (k:IntKind) (x y:AV) (bk:Bk):qv (.ar o k) [x,y] bk=.int k (k.wrap (wI o (bB x) (bB y))):=rfl
theorem Ya2 (o:BinOp) (k:IntKind) (x y:AV) (bk:Bk):qp (.ar o k) [x,y] bk=(bZ k x∧bZ k y):=rfl
theorem Xyc (o:BinOp) (k:IntKind) (x y:AV) (bk:Bk):qv (.dv o k) [x,y] bk=.int k (zc o k (bB x) (bB y)):=rfl
theorem Ya7 (o:BinOp) (k:IntKind) (x y:AV) (bk:Bk):qp (.dv o k) [x,y] bk=(bZ k x∧bZ k y∧bB y≠0):=rfl
theorem Ybf (o:BinOp) (k:IntKind) (x y:AV) (bk:Bk):qv (.bt o k) [x,y] bk=.int k (bits o k (bB x) (bB y)):=rfl
theorem Yaj (o:BinOp) (k:IntKind) (x y:AV) (bk:Bk):qp (.bt o k) [x,y] bk=(bZ k x∧bZ k y):=rfl
theorem Xz6 (o:BinOp) (k:IntKind) (x y:AV) (bk:Bk):qv (.sh o k) [x,y] bk=.int k (zd o k (bB x) (bB y)):=rfl
theorem Ybm (o:BinOp) (k:IntKind) (x y:AV) (bk:Bk):qp (.sh o k) [x,y] bk=(bZ k x∧fK y∧0≤bB y):=rfl
theorem Ybk (o:BinOp) (k:IntKind) (x y:AV) (bk:Bk):qv (.cm o k) [x,y] bk=.bool (sk o (bB x) (bB y)):=rfl
theorem Xyu (o:BinOp) (k:IntKind) (x y:AV) (bk:Bk):qp (.cm o k) [x,y] bk=(bZ k x∧bZ k y):=rfl
theorem Ybn (ne:Bool) (x y:AV) (bk:Bk):qv (.cB ne) [x,y] bk=.bool (ne != (eL x == eL y)):=rfl
theorem Yb7 (ne:Bool) (x y:AV) (bk:Bk):qp (.cB ne) [x,y] bk=(fh x∧fh y):=rfl
theorem Xxu (ne:Bool) (x y:AV) (bk:Bk):qv (.cS ne) [x,y] bk=.bool (ne != (cL x == cL y)):=rfl
theorem Xy1 (ne:Bool) (x y:AV) (bk:Bk):qp (.cS ne) [x,y] bk=(fB x∧fB y):=rfl
theorem Xth (x y:AV) (bk:Bk):qv .cat [x,y] bk=.str (cL x++cL y):=rfl
theorem Xvm (x y:AV) (bk:Bk):qp .cat [x,y] bk=(fB x∧fB y∧(cL x).length + (cL y).length≤9223372036854775807):=rfl
theorem Yak (k:IntKind) (x:AV) (bk:Bk):qv (.cv k) [x] bk=.int k (k.wrap (bB x)):=rfl
theorem Yb3 (k:IntKind) (x:AV) (bk:Bk):qp (.cv k) [x] bk=fK x:=rfl
theorem Xts (ty:TY) (off:Nat) (cs:List AV) (bk:Bk):qv (.ze ty off) [.agg cs] bk=wr ty cs off:=rfl
theorem Xwr (ty:TY) (off:Nat) (cs:List AV) (bk:Bk):qp (.ze ty off) [.agg cs] bk=j5 ty cs off:=rfl
theorem Xut (es len:Nat) (ty:TY) (cs:List AV) (i:AV) (bk:Bk):qv (.vg es len ty) [.agg cs,i] bk=wr ty cs ((bB i).toNat * es):=rfl
theorem Xtj (es len:Nat) (ty:TY) (cs:List AV) (i:AV) (bk:Bk):qp (.vg es len ty) [.agg cs,i] bk=(fK i∧0≤bB i∧bB i < len∧j5 ty cs ((bB i).toNat * es)):=rfl
theorem Xrt (x i:AV) (bk:Bk):qv .zf [x,i] bk=.int .u8 ((cL x).getD (bB i).toNat 0).toNat:=rfl
theorem Xw9 (x i:AV) (bk:Bk):qp .zf [x,i] bk=(fB x∧fK i∧0≤bB i∧bB i < (cL x).length):=rfl
theorem Xlc (o b off:Nat) (bk:Bk):qv (.jm o) [.ptr b off] bk=.ptr b (off + o):=rfl
theorem Xpb (o b off:Nat) (bk:Bk):qp (.jm o) [.ptr b off] bk=True:=by simp[qp]
theorem Xex (o off:Nat) (cs:List AV) (bk:Bk):qv (.jm o) [.xp cs off] bk=.xp cs (off + o):=rfl
theorem Xdr (o off:Nat) (cs:List AV) (bk:Bk):qp (.jm o) [.xp cs off] bk=True:=by simp[qp]
theorem Xdg (len es b off:Nat) (i:AV) (bk:Bk):qv (.ft len es) [.ptr b off,i] bk=.ptr b (off + (bB i).toNat * es):=rfl
theorem Xeq (len es b off:Nat) (i:AV) (bk:Bk):qp (.ft len es) [.ptr b off,i] bk=(fK i∧0≤bB i∧bB i < len):=rfl
theorem Qz5 (len es off:Nat) (cs:List AV) (i:AV) (bk:Bk):qv (.ft len es) [.xp cs off,i] bk=.xp cs (off + (bB i).toNat * es):=rfl
theorem Qzu (len es off:Nat) (cs:List AV) (i:AV) (bk:Bk):qp (.ft len es) [.xp cs off,i] bk=(fK i∧0≤bB i∧bB i < len):=rfl
theorem Xfk (es es2 b off n c:Nat) (i:AV) (bk:Bk):qv (.fu es) [.sl es2 b off n c,i] bk=.ptr b (off + (bB i).toNat * es):=rfl
theorem Xey (es es2 b off n c:Nat) (i:AV) (bk:Bk):qp (.fu es) [.sl es2 b off n c,i] bk=(es2=es∧fK i∧0≤bB i∧bB i < n):=rfl
theorem Qzf (es n:Nat) (cs:List AV) (i:AV) (bk:Bk):qv (.fu es) [.isl n cs,i] bk=.xp cs ((bB i).toNat * es):=rfl
theorem Xar (es n:Nat) (cs:List AV) (i:AV) (bk:Bk):qp (.fu es) [.isl n cs,i] bk=(fK i∧0≤bB i∧bB i < n∧(bB i).toNat * es < cs.length):=rfl
theorem Ybr (ty:TY) (b off:Nat) (cs:List AV):qv (.ld ty) [.ptr b off] (.cells cs)=wr ty cs off:=rfl
theorem Yam (ty:TY) (b off:Nat) (cs:List AV):qp (.ld ty) [.ptr b off] (.cells cs)=j5 ty cs off:=rfl
theorem Xvs (ty:TY) (off:Nat) (cs:List AV) (bk:Bk):qv (.ld ty) [.xp cs off] bk=wr ty cs off:=rfl
theorem Xtq (ty:TY) (off:Nat) (cs:List AV) (bk:Bk):qp (.ld ty) [.xp cs off] bk=j5 ty cs off:=rfl
theorem Xqv (x:AV) (bk:Bk):qv .oc [x] bk=.int .i64 (cL x).length:=rfl
theorem Xkz (x:AV) (bk:Bk):qp .oc [x] bk=fB x:=rfl
theorem Xds (n:Nat) (cs:List AV) (bk:Bk):qv .fV [.isl n cs] bk=.int .i64 n:=rfl
theorem Xfm (n:Nat) (cs:List AV) (bk:Bk):qp .fV [.isl n cs] bk=True:=by simp[qp]
theorem Xgl (es b o n c:Nat) (bk:Bk):qv .fV [.sl es b o n c] bk=.int .i64 n:=rfl
theorem Xhz (es b o n c:Nat) (bk:Bk):qp .fV [.sl es b o n c] bk=True:=by simp[qp]
theorem Xes (bk:Bk):qv .fV [.nils] bk=.int .i64 0:=rfl
theorem Xg2 (bk:Bk):qp .fV [.nils] bk=True:=by simp[qp]
theorem Xpo (b:Nat) (kvs:List (AV × AV)) (dn:Bool):qv .od [.mp b] (.aC kvs dn)=.int .i64 kvs.length:=rfl
theorem Xmu (b:Nat) (kvs:List (AV × AV)) (dn:Bool):qp .od [.mp b] (.aC kvs dn)=True:=by simp[qp]
theorem Xt7 (lo hi:Bool) (x:AV) (r:List AV) (bk:Bk):qv (.zg lo hi) (x::r) bk=.str (((cL x).drop (Xx lo r).toNat).take ((Ja lo hi (cL x).length r).toNat - (Xx lo r).toNat)):=rfl
theorem Xux (lo hi:Bool) (x:AV) (r:List AV) (bk:Bk):qp (.zg lo hi) (x::r) bk=(fB x∧lO lo hi r∧0≤Xx lo r∧Xx lo r≤Ja lo hi (cL x).length r∧Ja lo hi (cL x).length r≤(cL x).length):=rfl
theorem Xpp (es n:Nat) (cs:List AV) (lo hi:Bool) (r:List AV) (bk:Bk):qv (.og es lo hi) (.isl n cs::r) bk=.isl ((Ja lo hi n r).toNat - (Xx lo r).toNat) ((cs.drop ((Xx lo r).toNat * es)).take (((Ja lo hi n r).toNat - (Xx lo r).toNat) * es)):=rfl
theorem Xow (es n:Nat) (cs:List AV) (lo hi:Bool) (r:List AV) (bk:Bk):qp (.og es lo hi) (.isl n cs::r) bk=(lO lo hi r∧0≤Xx lo r∧Xx lo r≤Ja lo hi n r∧Ja lo hi n r≤n∧cs.length≤n * es):=rfl
theorem Xqc {es es2 b off n c:Nat} {lo hi:Bool} {r:List AV} {bk:Bk} (h:Xx lo r < c):qv (.og es lo hi) (.sl es2 b off n c::r) bk=.sl es b (off + (Xx lo r).toNat * es) ((Ja lo hi n r).toNat - (Xx lo r).toNat) (c - (Xx lo r).toNat):=if_pos h
theorem Xmk {es es2 b off n c:Nat} {lo hi:Bool} {r:List AV} {bk:Bk} (h:¬ Xx lo r < c):qv (.og es lo hi) (.sl es2 b off n c::r) bk=.isl 0 []:=if_neg h
theorem Xjp (es es2 b off n c:Nat) (lo hi:Bool) (r:List AV) (bk:Bk):qp (.og es lo hi) (.sl es2 b off n c::r) bk=(es2=es∧lO lo hi r∧0≤Xx lo r∧Xx lo r≤Ja lo hi n r∧Ja lo hi n r≤c):=rfl
theorem Xsk (i:Nat) (vs:List AV) (bk:Bk):qv (.ext i) [.aU vs] bk=vs.getD i .any:=rfl
theorem Xw2 (i:Nat) (vs:List AV) (bk:Bk):qp (.ext i) [.aU vs] bk=(i < vs.length):=rfl
theorem Xix (b o:Nat) (bk:Bk):qv .fW [.ptr b o] bk=.ptr b o:=rfl
theorem Xic (b o:Nat) (bk:Bk):qp .fW [.ptr b o] bk=True:=by simp[qp]
theorem Xa1 (cs:List AV) (o:Nat) (bk:Bk):qv .fW [.xp cs o] bk=.xp cs o:=rfl
theorem Xb5 (cs:List AV) (o:Nat) (bk:Bk):qp .fW [.xp cs o] bk=True:=by simp[qp]
theorem Xsi (z:List AV) (ps:List (Nat × Nat)) (vs:List AV) (bk:Bk):qv (.wJ z ps) vs bk=.agg (Zz z ps vs):=by rcases vs with _|⟨a,_|⟨b,_|⟨c,_|⟨d,r⟩⟩⟩⟩<;>rfl
theorem Xrv (z:List AV) (ps:List (Nat × Nat)) (vs:List AV) (bk:Bk):qp (.wJ z ps) vs bk=Zd z.length ps vs:=by rcases vs with _|⟨a,_|⟨b,_|⟨c,_|⟨d,r⟩⟩⟩⟩<;>rfl
theorem Xs5 (f:FuncId) (vs:List AV) (bk:Bk):qv (.zh f) vs bk=.cl f vs:=by rcases vs with _|⟨a,_|⟨b,_|⟨c,_|⟨d,r⟩⟩⟩⟩<;>rfl
theorem Xrj (f:FuncId) (vs:List AV) (bk:Bk):qp (.zh f) vs bk=True:=by rcases vs with _|⟨a,_|⟨b,_|⟨c,_|⟨d,r⟩⟩⟩⟩<;>simp[qp]
theorem Xxo (k:IntKind) (x y:AV) (bk:Bk):qv (.mn k) [x,y] bk=.int k (if bB y < bB x then bB y else bB x):=rfl
theorem Xxh (k:IntKind) (x y:AV) (bk:Bk):qp (.mn k) [x,y] bk=(bZ k x∧bZ k y):=rfl
theorem Yan (k:IntKind) (x y:AV) (bk:Bk):qv (.mx k) [x,y] bk=.int k (if bB y > bB x then bB y else bB x):=rfl
theorem Xxp (k:IntKind) (x y:AV) (bk:Bk):qp (.mx k) [x,y] bk=(bZ k x∧bZ k y):=rfl
theorem Xen (ne:Bool) (bk:Bk):qv (.eS ne) [.lit (.pointer none)] bk=.bool (!ne):=rfl
theorem Xis (ne:Bool) (bk:Bk):qp (.eS ne) [.lit (.pointer none)] bk=True:=by simp[qp]
theorem Xi2 (ne:Bool) (b o:Nat) (bk:Bk):qv (.eS ne) [.ptr b o] bk=.bool ne:=rfl
theorem Xgu (ne:Bool) (b o:Nat) (bk:Bk):qp (.eS ne) [.ptr b o] bk=True:=by simp[qp]
theorem Xf5 (ne:Bool) (cs:List AV) (o:Nat) (bk:Bk):qv (.eS ne) [.xp cs o] bk=.bool ne:=rfl
theorem Xg1 (ne:Bool) (cs:List AV) (o:Nat) (bk:Bk):qp (.eS ne) [.xp cs o] bk=True:=by simp[qp]
theorem Xm5 (bk:Bk):qv .mZ [.nils] bk=.str []:=rfl
theorem Xq6 (bk:Bk):qp .mZ [.nils] bk=True:=by simp[qp]
theorem Xmm (n:Nat) (cs:List AV) (bk:Bk):qv .mZ [.isl n cs] bk=.str (toB (cs.take n)):=rfl
theorem Xqa (n:Nat) (cs:List AV) (bk:Bk):qp .mZ [.isl n cs] bk=(n≤cs.length∧∀ v ∈ cs.take n,bZ .u8 v):=rfl
theorem Xmq (es b off n c:Nat) (cs:List AV):qv .mZ [.sl es b off n c] (.cells cs)=.str (toB ((cs.drop off).take n)):=rfl
theorem Xo7 (es b off n c:Nat) (cs:List AV):qp .mZ [.sl es b off n c] (.cells cs)=(es=1∧off + n≤cs.length∧∀ v ∈ (cs.drop off).take n,bZ .u8 v):=rfl
theorem Xll (x y:Int):wI .add x y=x + y:=rfl
theorem Xqo (x y:Int):wI .sub x y=x - y:=rfl
theorem Xl1 (x y:Int):wI .mul x y=x * y:=rfl
theorem Xj8 (x y:Int):sk .eql x y=(x == y):=rfl
theorem Xjf (x y:Int):sk .neq x y=(x != y):=rfl
theorem Xki (x y:Int):sk .lss x y=decide (x < y):=rfl
theorem Xkc (x y:Int):sk .leq x y=decide (x≤y):=rfl
theorem Xjx (x y:Int):sk .gtr x y=decide (y < x):=rfl
theorem Xnn (x y:Int):sk .geq x y=decide (y≤x):=rfl
theorem Xnp (k:IntKind) (x y:Int):zc .quo k x y=k.wrap (x.tdiv y):=rfl
theorem Xm4 (k:IntKind) (x y:Int):zc .rem k x y=x.tmod y:=rfl
theorem Xpi (k:IntKind) (x y:Int):zd .shl k x y=k.wrap (x * 2 ^ min y.toNat k.bits):=rfl
theorem Xk4 (k:IntKind) (x y:Int):zd .shr k x y=x.fdiv (2 ^ min y.toNat k.bits):=rfl
theorem Xkg (r:List AV):Xx false r=0:=by cases r<;>rfl
theorem Xhn (x:AV) (r:List AV):Xx true (x::r)=bB x:=rfl
theorem Xpk (lo:Bool) (n:Nat) (r:List AV):Ja lo false n r=n:=by rcases r with _|⟨a,_|⟨b,_|⟨d,r⟩⟩⟩<;>simp[Ja]
theorem Xea (n:Nat) (x:AV):Ja false true n [x]=bB x:=rfl
theorem Xia (n:Nat) (x y:AV):Ja true true n [x,y]=bB y:=rfl
theorem Xh0:lO false false []=True:=by simp[lO]
theorem Xoa (x:AV):lO true false [x]=bZ .i64 x:=by simp[lO]
theorem Xji (x:AV):lO false true [x]=bZ .i64 x:=by simp[lO]
theorem Xj3 (x y:AV):lO true true [x,y]=(bZ .i64 x∧bZ .i64 y):=by simp[lO]
theorem Xfq (z:List AV) (q m:Nat) (ps:List (Nat × Nat)) (r:List AV) (k:IntKind) (n:Int):Zz z ((q,m)::ps) ((.int k n)::r)=Zz (z.set q (.int k n)) ps r:=rfl
theorem Xb6 (n1 q m:Nat) (ps:List (Nat × Nat)) (r:List AV) (k:IntKind) (n:Int):Zd n1 ((q,m)::ps) ((.int k n)::r)=(one (.int k n)∧m=1∧q < n1∧Zd n1 ps r):=rfl
theorem Qzq (z:List AV) (q m:Nat) (ps:List (Nat × Nat)) (r:List AV) (b:Bool):Zz z ((q,m)::ps) ((.bool b)::r)=Zz (z.set q (.bool b)) ps r:=rfl
theorem Qu8 (n1 q m:Nat) (ps:List (Nat × Nat)) (r:List AV) (b:Bool):Zd n1 ((q,m)::ps) ((.bool b)::r)=(one (.bool b)∧m=1∧q < n1∧Zd n1 ps r):=rfl
theorem Xhf (z:List AV) (q m:Nat) (ps:List (Nat × Nat)) (r:List AV) (l:List UInt8):Zz z ((q,m)::ps) ((.str l)::r)=Zz (z.set q (.str l)) ps r:=rfl
theorem Qzh (n1 q m:Nat) (ps:List (Nat × Nat)) (r:List AV) (l:List UInt8):Zd n1 ((q,m)::ps) ((.str l)::r)=(one (.str l)∧m=1∧q < n1∧Zd n1 ps r):=rfl
theorem Xdo (z:List AV) (o m:Nat) (ps:List (Nat × Nat)) (cs r:List AV):Zz z ((o,m)::ps) (.agg cs::r)=Zz (Yx z o cs) ps r:=rfl
theorem Qz2 (n o m:Nat) (ps:List (Nat × Nat)) (cs r:List AV):Zd n ((o,m)::ps) (.agg cs::r)=(cs.length=m∧o + m≤n∧Zd n ps r):=rfl
theorem Xgi (z:List AV) (q m:Nat) (ps:List (Nat × Nat)) (r:List AV) (b o:Nat):Zz z ((q,m)::ps) ((.ptr b o)::r)=Zz (z.set q (.ptr b o)) ps r:=rfl
theorem Xat (n1 q m:Nat) (ps:List (Nat × Nat)) (r:List AV) (b o:Nat):Zd n1 ((q,m)::ps) ((.ptr b o)::r)=(one (.ptr b o)∧m=1∧q < n1∧Zd n1 ps r):=rfl
theorem Xle (z:List AV) (q m:Nat) (ps:List (Nat × Nat)) (r:List AV) (cs:List AV) (o:Nat):Zz z ((q,m)::ps) ((.xp cs o)::r)=Zz (z.set q (.xp cs o)) ps r:=rfl
theorem Xi4 (n1 q m:Nat) (ps:List (Nat × Nat)) (r:List AV) (cs:List AV) (o:Nat):Zd n1 ((q,m)::ps) ((.xp cs o)::r)=(one (.xp cs o)∧m=1∧q < n1∧Zd n1 ps r):=rfl
theorem Xk0 (z:List AV) (q m:Nat) (ps:List (Nat × Nat)) (r:List AV) (es b o n c:Nat):Zz z ((q,m)::ps) ((.sl es b o n c)::r)=Zz (z.set q (.sl es b o n c)) ps r:=rfl
theorem Xgk (n1 q m:Nat) (ps:List (Nat × Nat)) (r:List AV) (es b o n c:Nat):Zd n1 ((q,m)::ps) ((.sl es b o n c)::r)=(one (.sl es b o n c)∧m=1∧q < n1∧Zd n1 ps r):=rfl
theorem Xer (z:List AV) (q m:Nat) (ps:List (Nat × Nat)) (r:List AV) (n:Nat) (cs:List AV):Zz z ((q,m)::ps) ((.isl n cs)::r)=Zz (z.set q (.isl n cs)) ps r:=rfl
theorem Qzz (n1 q m:Nat) (ps:List (Nat × Nat)) (r:List AV) (n:Nat) (cs:List AV):Zd n1 ((q,m)::ps) ((.isl n cs)::r)=(one (.isl n cs)∧m=1∧q < n1∧Zd n1 ps r):=rfl
theorem Xan (z:List AV) (q m:Nat) (ps:List (Nat × Nat)) (r:List AV):Zz z ((q,m)::ps) (.nils::r)=Zz (z.set q .nils) ps r:=rfl
theorem Qwu (n1 q m:Nat) (ps:List (Nat × Nat)) (r:List AV):Zd n1 ((q,m)::ps) (.nils::r)=(one .nils∧m=1∧q < n1∧Zd n1 ps r):=rfl
theorem Xmp (z:List AV) (q m:Nat) (ps:List (Nat × Nat)) (r:List AV) (f:FuncId) (cs:List AV):Zz z ((q,m)::ps) ((.cl f cs)::r)=Zz (z.set q (.cl f cs)) ps r:=rfl
theorem Xg4 (n1 q m:Nat) (ps:List (Nat × Nat)) (r:List AV) (f:FuncId) (cs:List AV):Zd n1 ((q,m)::ps) ((.cl f cs)::r)=(one (.cl f cs)∧m=1∧q < n1∧Zd n1 ps r):=rfl
theorem Xmw (z:List AV) (q m:Nat) (ps:List (Nat × Nat)) (r:List AV) (b:Nat):Zz z ((q,m)::ps) ((.mp b)::r)=Zz (z.set q (.mp b)) ps r:=rfl
theorem Xfn (n1 q m:Nat) (ps:List (Nat × Nat)) (r:List AV) (b:Nat):Zd n1 ((q,m)::ps) ((.mp b)::r)=(one (.mp b)∧m=1∧q < n1∧Zd n1 ps r):=rfl
theorem Xip (z:List AV) (q m:Nat) (ps:List (Nat × Nat)) (r:List AV) (v:Value):Zz z ((q,m)::ps) ((.lit v)::r)=Zz (z.set q (.lit v)) ps r:=rfl
theorem Qza (n1 q m:Nat) (ps:List (Nat × Nat)) (r:List AV) (v:Value):Zd n1 ((q,m)::ps) ((.lit v)::r)=(one (.lit v)∧m=1∧q < n1∧Zd n1 ps r):=rfl
theorem Xie (z:List AV):Zz z [] []=z:=rfl
theorem Xap (n:Nat):Zd n [] []=True:=by simp[Zd]
attribute [go_sem] Yfq Yft Xf3 ZZ Z0 Z4 Z5 Z6 Z7 Z8 Z9 Yei Yf9 Yce Yf6 Xz3 Ydf Yaw Yd0 Xv1 Xzp Xyr Ycc Qzr Xpq Xuq wO sq St.put St.aK St.nw St.bQ Fq Xa3 Xsc Xdz Qv js Uh Xr jo sr Yz ai Qy oD tM bJ Xg az Sub Xq4 Xi8 Yc2 Ydx Qv1 Yd2 Ydg Yar cond_true cond_false true_and and_true List.map_cons List.map_nil List.cons_append List.nil_append Option.toList_some Option.toList_none List.getD_cons_zero List.getD_cons_succ List.set_cons_zero List.set_cons_succ List.take_succ_cons List.take_zero List.drop_succ_cons List.drop_zero List.length_cons List.length_nil Nat.zero_add Nat.add_zero Bool.and_true Bool.true_and Bool.and_false Bool.false_and Bool.or_true Bool.true_or Bool.or_false Bool.false_or Bool.not_true Bool.not_false Bool.not_not forall_const implies_true true_implies Bool.false_eq_true false_implies imp_self Qzn Xq9 Qyj Xe7 Xgx Xld Xmh Xh1 Qub Xhs Xks Quz Xfu Qta Xaa Xab Xhq Xf1 Xa0 Qsy Qyv Xdi Qz9 Xqe Qvj Xf2 Xgp Xqd Xkm Xiy Qu3 Xfv Xnj Qz3 Xn7 Xe1 Xjo Qv3 Xal Xr4 Qu2 Xfj Xge Qu4 Xb3 Xob Qx3 Xgo Xdf Xjz Xpu Xhd Xfi Xtw Xaq Xp8 Xjy Xwm Xte Xoi Qyx Xdp Xrk Xam Xku Xu1 Xx3 Xmb Xa4 Xkf Qtx Xfr Xfx Xnm Xr7 Xec Qy2 Qwe Xft Qt6 Qzw Qz8 Xgr Xdj Xa9 Qt5 Qyp Xew Xgg Xrp Xay Xnf Xkq Xu6 Xtz Xre Qz7 Xdm Xtr Qyn Xpw Xma Xrn Xw0 Xpx Xb8 Xls Qty Xhp Xhk Xod Qw7 Xj0 Xnb Qzs Xlo Qx1 Xhm Xh4 Xjg Qxa Xf0 Xj4 Xak Xla Qv2 Xmx Xgh Xno Xfe Xdu Xga Qxw Xaf Xb7 Qxn Xdn Qzd Xai Xp5 Xfa Xm6 Xp6 Xps Xdv Xoe Xrd Xm9 Xrf Xq5 Xoh Xjr Xj2 Xjc Xgw Xfz Xae Xhy Xop Xf8 Xo8 Xq3 Xon Xi5 Xr5 Xpv Yav Xyq Xqj Xmg Xp0 Xju Xi3 Xha Xh5 Qt2 Xg5 Xed Qr1 Yc7 Xlt Xqk Xas Xet QA Xag Xuu Xpm Xr6 Xok Xuh Xne Xqs Xsu Xs2 Xs0 Xf4 Xgj Xmf Xfd Xr2 Xdc Xlm Xjd Xda Xta Qys Qzg Qsx Xkn Xlp Qyy Qqz Qwi Qop Qy8 Qt9 Qra Qzb Qu1 Yb2 Xzf Xrx Xrc Xig Xax Xrg Xhu Xqf Xlx Xp4 Xp7 Xm2 Xpg Xpl Xe6 Xkr Xiq Xfh Xiz Xac Qtp Qvd Xlw Qyw Xa7 Qyt Xgv Xh6 Xez Quo Xgq Xff Xli Xlf Xaw Xit Xxi Yah Xt3 Xs1 Xn5 Xom Xz9 Ya2 Xyc Ya7 Ybf Yaj Xz6 Ybm Ybk Xyu Ybn Yb7 Xxu Xy1 Xth Xvm Yak Yb3 Xts Xwr Xut Xtj Xrt Xw9 Xlc Xpb Xex Xdr Xdg Xeq Qz5 Qzu Xfk Xey Qzf Xar Ybr Yam Xvs Xtq Xqv Xkz Xds Xfm Xgl Xhz Xes Xg2 Xpo Xmu Xt7 Xux Xpp Xow Xqc Xmk Xjp Xsk Xw2 Xix Xic Xa1 Xb5 Xsi Xrv Xs5 Xrj Xxo Xxh Yan Xxp Xen Xis Xi2 Xgu Xf5 Xg1 Xm5 Xq6 Xmm Xqa Xmq Xo7 Xll Xqo Xl1 Xj8 Xjf Xki Xkc Xjx Xnn Xnp Xm4 Xpi Xk4 Xkg Xhn Xpk Xea Xia Xh0 Xoa Xji Xj3 Xfq Xb6 Qzq Qu8 Xhf Qzh Xdo Qz2 Xgi Xat Xle Xi4 Xk0 Xgk Xer Qzz Xan Qwu Xmp Xg4 Xmw Xfn Xip Qza Xie Xap
def Qp (l:List Int):List AV:=l.map (.int .i64)
def Zp (l:List Bool):List AV:=l.map .bool
def Xq (l:List UInt8):List AV:=l.map fun (b:UInt8)=>.int .u8 b.toNat
theorem Yj (l:List Int):(Qp l).length=l.length:=by simp[Qp]
theorem Xnw (l:List Bool):(Zp l).length=l.length:=by simp[Zp]
theorem QB (l:List UInt8):(Xq l).length=l.length:=by simp[Xq]
theorem zE {l:List Int} {i:Nat} (h:i < l.length):(Qp l).getD i .any=.int .i64 (l.getD i 0):=by simp[Qp,List.getD,h]
theorem JF {l:List Bool} {i:Nat} (h:i < l.length):(Zp l).getD i .any=.bool (l.getD i false):=by simp[Zp,List.getD,h]
theorem QC {l:List UInt8} {i:Nat} (h:i < l.length):(Xq l).getD i .any=.int .u8 (l.getD i 0).toNat:=by simp[Xq,List.getD,h]
theorem Xk2 (l:List Int) (n:Nat):(Qp l).take n=Qp (l.take n):=by simp[Qp,List.map_take]
theorem Xjl (l:List Int) (n:Nat):(Qp l).drop n=Qp (l.drop n):=by simp[Qp,List.map_drop]
theorem Xq1 (l:List UInt8) (n:Nat):(Xq l).take n=Xq (l.take n):=by simp[Xq,List.map_take]
theorem Xlh (l:List UInt8) (n:Nat):(Xq l).drop n=Xq (l.drop n):=by simp[Xq,List.map_drop]
theorem Xe5 (l:List Bool) (n:Nat):(Zp l).take n=Zp (l.take n):=by simp[Zp,List.map_take]
theorem Xe0 (l:List Bool) (n:Nat):(Zp l).drop n=Zp (l.drop n):=by simp[Zp,List.map_drop]
theorem Xtk (l m:List Int):Qp l++Qp m=Qp (l++m):=by simp[Qp]
theorem Xsq (l m:List UInt8):Xq l++Xq m=Xq (l++m):=by simp[Xq]
theorem Xl7 {α:Type} {l:List α} {b j:Nat} {d:α} (h:j < b):(l.take b).getD j d=l.getD j d:=by simp only[List.getD,List.getElem?_take,if_pos h]
theorem Xka {α:Type} {l:List α} {a j:Nat} {d:α}:(l.drop a).getD j d=l.getD (a + j) d:=by simp only[List.getD,List.getElem?_drop]
theorem wX {α:Type} {l:List α} {i j:Nat} {v d:α} (h:i < l.length):(l.set i v).getD j d=if i=j then v else l.getD j d:=by
 simp only[List.getD,List.getElem?_set]
 split
 ·next e=>subst e;simp[h]
 ·rfl
theorem Xwv {α:Type} {l:List α} {n:Nat} (h:l.length≤n):l.take n=l:=List.take_of_length_le h
theorem Xfg {l r:List AV} {i:Nat} (h:i < l.length):(l++r).getD i .any=l.getD i .any:=by simp only[List.getD];rw[List.getElem?_append_left h]
theorem Xpr {l r:List AV} {i:Nat} {v:AV} (h:i < l.length):(l++r).set i v=l.set i v++r:=by rw[List.set_append,if_pos h]
theorem Yca (b:Bool):(b=false→(!b)=true)=True:=by cases b<;>simp
theorem Xzw (b:Bool):((!b)=true→b=false)=True:=by cases b<;>simp
theorem zF (ρ:Nat→Nat) (l:List Int):az ρ (Qp l)=Qp l:=by rw[Yu];simp[Qp,aE]
theorem Xqz (ρ:Nat→Nat) (l:List UInt8):az ρ (Xq l)=Xq l:=by rw[Yu];simp[Xq,aE]
theorem QD (ρ:Nat→Nat) (l:List Bool):az ρ (Zp l)=Zp l:=by rw[Yu];simp[Zp,aE]
theorem BT (ρ:Nat→Nat) (l m:List AV):az ρ (l++m)=az ρ l++az ρ m:=by simp[Yu]
theorem Xuk (l:List Int) (i:Nat) (n:Int):(Qp l).set i (.int .i64 n)=Qp (l.set i n):=by simp[Qp,List.map_set]
theorem Xol (l:List Bool) (i:Nat) (n:Bool):(Zp l).set i (.bool n)=Zp (l.set i n):=by simp[Zp,List.map_set]
theorem QE {l:List AV} {a b j:Nat} (h:j < b):((l.drop a).take b).getD j .any=l.getD (a + j) .any:=by simp only[List.getD,List.getElem?_take,List.getElem?_drop,if_pos h]
theorem Xsb {l:List AV} {b j:Nat} (h:j < b):(l.take b).getD j .any=l.getD j .any:=by simp only[List.getD,List.getElem?_take,if_pos h]
theorem Xvh {l:List AV} {a j:Nat}:(l.drop a).getD j .any=l.getD (a + j) .any:=by simp only[List.getD,List.getElem?_drop]
theorem Xy4 {l:List AV} {a b:Nat} (h:a + b≤l.length):((l.drop a).take b).length=b:=by simp;omega
theorem Xso {l:List AV} {b:Nat} (h:b≤l.length):(l.take b).length=b:=by simp;omega
theorem Xp9 {cs vs:List AV} (h:cs.length=vs.length):Yx cs 0 vs=vs:=by unfold Yx;simp[h]
theorem Xrl (cs:List AV) (o:Nat):Yx cs o []=cs:=by unfold Yx;simp
theorem Xqb (c v:AV) (cs vs:List AV):Yx (c::cs) 0 (v::vs)=v::Yx cs 0 vs:=by unfold Yx;simp
theorem Xl5 (c:AV) (cs vs:List AV) (o:Nat):Yx (c::cs) (o + 1) vs=c::Yx cs o vs:=by unfold Yx;simp[Nat.add_right_comm]
theorem Xo4 {cs vs:List AV} {o:Nat} (h:o + vs.length≤cs.length):(Yx cs o vs).length=cs.length:=by unfold Yx;simp;omega
theorem zG (n:Nat) (l:List Int):ai n (Qp l)=True:=eq_true (Xv.2 fun x hx=>by simp[Qp]at hx;obtain ⟨a,_,rfl⟩:=hx;simp[Qe])
theorem QF (n:Nat) (l:List Bool):ai n (Zp l)=True:=eq_true (Xv.2 fun x hx=>by simp[Zp]at hx;rcases hx with ⟨_,rfl⟩|⟨_,rfl⟩<;>simp[Qe])
theorem Xy3 (n:Nat) (l:List UInt8):ai n (Xq l)=True:=eq_true (Xv.2 fun x hx=>by simp[Xq]at hx;obtain ⟨a,_,rfl⟩:=hx;simp[Qe])
theorem zH (n:Nat) (l m:List AV):ai n (l++m)=(ai n l∧ai n m):=by simp only[Xv,List.mem_append,eq_iff_iff];exact ⟨fun h=>⟨fun x hx=>h x (.inl hx),fun x hx=>h x (.inr hx)⟩,fun h x hx=>hx.elim (h.1 x) (h.2 x)⟩
theorem Xt1 (l:List UInt8):toB (Xq l)=l:=by
 simp only[toB,Xq,List.map_map]
 conv=>rhs;rw[← List.map_id l]
 refine List.map_congr_left fun b _=>?_
 simp[bB]
theorem Xz7 (l:List UInt8):∀ v ∈ Xq l,bZ .u8 v:=fun v hv=>by simp[Xq]at hv;obtain ⟨a,_,rfl⟩:=hv;simp[bZ]
theorem Xst (l:List UInt8):(∀ v ∈ Xq l,bZ .u8 v)=True:=eq_true (Xz7 l)
theorem JG (s:FS) (l:List Int):(Qp l).map (Yt s)=Qp l:=by simp[Qp,Yt]
theorem QG (s:FS) (l:List Bool):(Zp l).map (Yt s)=Zp l:=by simp[Zp,Yt]
theorem wrap_i64 {n:Int} (h0:-9223372036854775808≤n) (h1:n < 9223372036854775808):IntKind.i64.wrap n=n:=by rw[IntKind.wrap_i64];omega
theorem wrap_u32 {n:Int} (h0:0≤n) (h1:n < 4294967296):IntKind.u32.wrap n=n:=by rw[IntKind.wrap_u32];omega
theorem wrap_u8 {n:Int} (h0:0≤n) (h1:n < 256):IntKind.u8.wrap n=n:=by rw[IntKind.wrap_u8];omega
theorem Xtc {n:Int} (h0:0≤n) (h1:n < 18446744073709551616):IntKind.u64.wrap n=n:=by simp[IntKind.wrap,IntKind.bits,IntKind.signed];omega
theorem Yes:((0:Nat):Int)=0:=rfl
theorem Yed (n:Nat):((no_index (OfNat.ofNat n):Nat):Int)=OfNat.ofNat n:=rfl
theorem Yet {P:Program} {c:Cx} {Q:EX→St→Prop} {s:St} {x:TV} {a b:TC} {t:Bool} (h:aZ c.gl s.fs x=.bool t) (ht:t=true→xw P c a Q s) (hf:t=false→xw P c b Q s):xw P c (.cond x a b) Q s:=by
 rw[Xxr,h]
 exact ⟨trivial,ht,hf⟩
attribute [go_sem] Yj Xnw QB zE JF QC Xk2 Xjl Xq1 Xlh Xe5 Xe0 Xl7 Xka Xfg Xpr Xwv Yca Xzw zF Xqz QD BT List.take_take Nat.min_self Nat.mul_one Nat.one_mul Xuk Xol QE Xsb Xvh Xy4 Xso Xp9 Xrl Xqb Xl5 Xo4 zG QF Xy3 zH Xt1 Xst JG QG wrap_i64 wrap_u32 wrap_u8 Xtc Int.toNat_natCast Yes Yed AV.int.injEq AV.bool.injEq AV.str.injEq AV.agg.injEq AV.aU.injEq AV.isl.injEq AV.sl.injEq AV.ptr.injEq AV.xp.injEq Bk.cells.injEq
section
variable {P:Program}
def pD (P:Program) (c:Cx) (k:PK) (vs:List AV) (r:AV):Prop :=
 ∀ (o:Oper) (ys:List Operand),Yf P o=some (k,ys)→∀ (g:Nat→GM) (W:Nat→Prop) (a:Act) (w:World),(∀ i,W i→i < w.heap.size)→(∀ i,VR (fun _=>.un) W w (c.gl i) (.pointer (some ⟨i,0,none⟩)))→bO g W w vs (ys.map a.eval) →
  ∀ (K:Act→World→Prop) (Q:Exit→Act→World→Prop),(∀ v w',Fr w w' (fun _=>False)→VR g W w' r v→K (a.put o.dst v) w')→o.wp P a w K Q
theorem QH {c:Cx} {s:St} {d:Option Nat} {k:PK} {xs:List TV} {gd:Option (Nat × Bool)} {args:List AV} {r:AV} (aY:Uh c.gl s.fs xs gd) (aN:(aG c.gl s.fs xs).map Qk=args)
  (hq:ob (gB s.fs gd) (pD P c k args r)):Ky P c (.pd d k xs gd) s.fs (Yz d xs gd) (s.bQ d (cw (gB s.fs gd) r)).fs:=by
 intro ops io he
 obtain ⟨bf,bh,hd,ys,aJ,rfl⟩:=Zr he
 have eU:(s.bQ d (cw (gB s.fs gd) r)).fs=match d with|some d=>s.fs.put d (cw (gB s.fs gd) r)|none=>s.fs:=by
  cases d with
  | none=>rfl
  | some d=>exact St.bT _ _ _
 rw[eU]
 refine ⟨fun i hi=>?_,fun b _=>by cases d<;>rfl,?_⟩
 ·cases d with
  | none=>rfl
  | some d=>show (s.fs.put d _).T i=_;rw[FS.dg,if_neg (fun e=>hi (by simp[Yz,e]))]
 ·intro s2 hT hH g a w hR K Q' hK
  have bp:aG c.gl s2 (ys.map aT)=aG c.gl s.fs (ys.map aT):=Yi fun i hi=>hT i (by simp[Yz,hi])
  have hg:∀ t b,gd=some (t,b)→s2.T t=s.fs.T t:=fun t b e=>hT t (by simp[Yz,e,jo])
  have oz:gB s2 gd=gB s.fs gd:=by
   cases gd with
   | none=>rfl
   | some p=>obtain ⟨t,b⟩:=p;simp only[gB,hg t b rfl]
  have oA:fE s2 gd:=by
   have:=aY.1
   cases gd with
   | none=>exact this
   | some p=>obtain ⟨t,b⟩:=p;simpa only[fE,hg t b rfl] using this
  have lP:∀ v w',Fr w w' (fun _=>False)→VR g (Qo c g s2) w' (cw (gB s.fs gd) r) v→K (a.put io.dst v) w':=fun v w' hf hv=>by
   rw[bh]
   have bg:=hR.grow hf
   cases d with
   | none =>
    refine hK g _ w' ?_
    have:dj s2 s.fs (Yz none (ys.map aT) gd)=s2:=by unfold dj Yz;simp
    simp only[this];exact bg
   | some d =>
    refine hK g _ w' ?_
    show R c g (dj s2 (s.fs.put d _) ⟨jo gd++Xr (ys.map aT),[],[d],[]⟩) _ _
    rw[wP]
    exact bg.put (by simpa using hd) hv
  unfold mg
  rw[vi bf hR oA,oz]
  have run:(∀ b,gB s.fs gd=some b→b=true)→io.wp P a w K Q':=by
   intro hb
   have pA:Qv none (aG c.gl s2 (ys.map aT)):=by
    rw[bp]
    have:=aY.2
    cases ca:gB s.fs gd with
    | none=>rw[ca]at this;exact this
    | some b=>rw[ca]at this;exact zu (hb b ca) this
   have cF:pD P c k args r:=by
    cases ca:gB s.fs gd with
    | none=>rw[ca]at hq;exact hq
    | some b=>rw[ca]at hq;exact hq (hb b ca)
   have hv:=Yn (hR.aG ys) pA
   rw[bp,aN]at hv
   have hX:∀ k,Qo c g s2 k→k < w.heap.size:=by
    rintro k (h|⟨b',hl,fk⟩)
    ·have:=(hR.xs k h).1;have:=hR.fr.size;omega
    ·exact BR.lt (fk ▸ hR.h b') hl
   refine cF io ys aJ g _ a w hX (fun i=>(hR.gl i)) hv K Q' fun v w' hf fL=>?_
   refine lP v w' hf ?_
   cases ca:gB s.fs gd with
   | none=>exact fL
   | some b=>exact .dw (fun _=>fL) fun h=>by rw[hb b ca]at h;cases h
  cases ca:gB s.fs gd with
  | none=>simp only[Option.getD_none,if_true];exact run fun b h=>by rw[ca]at h;cases h
  | some b =>
   cases b with
   | true=>simp only[Option.getD_some,if_true];exact run fun b h=>by rw[ca]at h;cases h;rfl
   | false =>
    simp only[Option.getD_some,Bool.false_eq_true,if_false]
    refine lP undef w (Fr.refl _ _) ?_
    rw[ca]
    exact .dw (fun h=>by cases h) fun _=>rfl
theorem Xy7 {c:Cx} {r0:List bG} {K:St→Prop} {s:St} {d:Option Nat} {k:PK} {xs:List TV} {gd:Option (Nat × Bool)} {args:List AV} {r:AV} (hq:ob (gB s.fs gd) (pD P c k args r)) (aN:(aG c.gl s.fs xs).map Qk=args)
  (aY:Uh c.gl s.fs xs gd∧XP P c r0 K (s.bQ d (cw (gB s.fs gd) r))):Yh P c (.pd d k xs gd) r0 K s :=
 .inl ⟨_,_,QH aY.1 aN hq,aY.2⟩
theorem Xw8 {c:Cx} {anc:List Nat} {fs:List bn} {r0:List bG} {K:St→Prop} {s:St} {d:Option Nat} {k:PK} {xs:List TV} {gd:Option (Nat × Bool)} {args:List AV} {r:AV} (hq:ob (gB s.fs gd) (pD P c k args r)) (aN:(aG c.gl s.fs xs).map Qk=args)
  (aY:Uh c.gl s.fs xs gd∧XD P c anc r0 (Yz d xs gd::fs) K (s.bQ d (cw (gB s.fs gd) r))):Zm P c anc (.pd d k xs gd) r0 fs K s :=
 ⟨_,_,QH aY.1 aN hq,aY.2⟩
theorem wY {o:Option Bool} {p:Prop} (h:p):ob o p:=by cases o<;>first|exact h|exact fun _=>h
theorem Xt {c:Cx} {r0:List bG} {K:St→Prop} {s:St} {d:Option Nat} {f:FuncId} {xs:List TV} {gd:Option (Nat × Bool)} {args:List AV} {r:AV} (aN:(aG c.gl s.fs xs).map Qk=args) (ec:PS P c.gl f args r)
  (aY:Uh c.gl s.fs xs gd∧ai 0 args∧XP P c r0 K (s.bQ d (cw (gB s.fs gd) r))):Yh P c (.pd d (.call f) xs gd) r0 K s:=Yf4 (wY ec) aN aY
theorem Xl {c:Cx} {anc:List Nat} {fs:List bn} {r0:List bG} {K:St→Prop} {s:St} {d:Option Nat} {f:FuncId} {xs:List TV} {gd:Option (Nat × Bool)} {args:List AV} {r:AV} (aN:(aG c.gl s.fs xs).map Qk=args) (ec:PS P c.gl f args r)
  (aY:Uh c.gl s.fs xs gd∧ai 0 args∧XD P c anc r0 (Yz d xs gd::fs) K (s.bQ d (cw (gB s.fs gd) r))):Zm P c anc (.pd d (.call f) xs gd) r0 fs K s:=Ydo (wY ec) aN aY
theorem Xd {c:Cx} {r0:List bG} {K:St→Prop} {s:St} {d:Option Nat} {k:PK} {xs:List TV} {gd:Option (Nat × Bool)} {args:List AV} {r:AV} (aN:(aG c.gl s.fs xs).map Qk=args) (hq:pD P c k args r)
  (aY:Uh c.gl s.fs xs gd∧XP P c r0 K (s.bQ d (cw (gB s.fs gd) r))):Yh P c (.pd d k xs gd) r0 K s:=Xy7 (wY hq) aN aY
theorem Xb {c:Cx} {anc:List Nat} {fs:List bn} {r0:List bG} {K:St→Prop} {s:St} {d:Option Nat} {k:PK} {xs:List TV} {gd:Option (Nat × Bool)} {args:List AV} {r:AV} (aN:(aG c.gl s.fs xs).map Qk=args) (hq:pD P c k args r)
  (aY:Uh c.gl s.fs xs gd∧XD P c anc r0 (Yz d xs gd::fs) K (s.bQ d (cw (gB s.fs gd) r))):Zm P c anc (.pd d k xs gd) r0 fs K s:=Xw8 (wY hq) aN aY
def zI (rec:TypeId→Option (List SK)) (P:Program):Nat→List Field→Option (List SK)
 | _,[]=>some []
 | o, f :: fs => if f.name = "_" ∨ f.offset ≠ o ∨ (P.info? f.type).isNone then none else (rec f.type).bind fun ks => if P.cellsOf f.type = ks.length then (zI rec P (o + ks.length) fs).map (ks ++ ·) else none
def jK (P:Program):Nat→TypeId→Option (List SK)
 | 0,_=>none
 | d + 1,t=>match P.underlying t with
  | some .bool=>some [.bool]
  | some (.int k)=>some [.int k]
  | some .string=>some [.str]
  | some (.struct fs)=>if P.stoodInHeld t then none else zI (jK P d) P 0 fs.toList
  | some (.array n e)=>if (P.info? e).isNone then none else (jK P d e).bind fun ks=>if P.cellsOf e=ks.length then some (List.replicate n ks).flatten else none
  | _=>none
def BU:SK→Value→Value→Bool
 | .int _,.int _ a,.int _ b=>a == b
 | .bool,.bool a,.bool b=>a == b
 | .str,.string a,.string b=>a.toList == b.toList
 | _,_,_=>true
def Yds:SK→Value→Prop
 | .int k,v=>∃ n,v=.int k n
 | .bool,v=>∃ b,v=.bool b
 | .str,v=>∃ b,v=.string b
 | .ref,_=>False
def Jr:List SK→List Value→List Value→Bool
 | k::ks,u::us,v::vs=>BU k u v && Jr ks us vs
 | _,_,_=>true
def ky:List SK→List Value→Prop
 | k::ks,u::us=>Yds k u∧ky ks us
 | [],_=>True
 | _::_,[]=>False
theorem vo:∀ (ks ls:List SK) (us:List Value),ky (ks++ls) us→ky ks us∧ky ls (us.drop ks.length)
 | [],_,us,h=>⟨by cases us<;>trivial,by simpa using h⟩
 | _::ks,ls,[],h=>h.elim
 | _::ks,ls,_::us,h=>⟨⟨h.1,(vo ks ls us h.2).1⟩,by simpa using (vo ks ls us h.2).2⟩
theorem vp:∀ (ks:List SK) (us:List Value),ky ks us→ks.length≤us.length
 | [],_,_=>by simp
 | _::_,[],h=>h.elim
 | _::ks,_::us,h=>by have:=vp ks us h.2;simp;omega
theorem JH:∀ (ks ls:List SK) (us vs:List Value),ks.length≤us.length→ks.length≤vs.length→Jr (ks++ls) us vs=(Jr ks us vs && Jr ls (us.drop ks.length) (vs.drop ks.length))
 | [],_,_,_,_,_=>by simp[Jr]
 | _::_,_,[],_,h,_=>by simp at h
 | _::_,_,_::_,[],_,h=>by simp at h
 | k::ks,ls,u::us,v::vs,h1,h2=>by
  simp only[List.length_cons]at h1 h2
  simp[Jr,JH ks ls us vs af af,Bool.and_assoc]
theorem wZ:∀ (ks:List SK) (us:List Value),ky ks us→ky ks (us.take ks.length)
 | [],us,_=>by cases us<;>trivial
 | _::_,[],h=>h.elim
 | k::ks,u::us,h=>⟨h.1,wZ ks us h.2⟩
theorem JI:∀ (ks:List SK) (us vs:List Value),Jr ks (us.take ks.length) (vs.take ks.length)=Jr ks us vs
 | [],_,_=>by simp[Jr]
 | _::_,[],_=>by simp[Jr]
 | _::_,_::_,[]=>by simp[Jr]
 | k::ks,u::us,v::vs=>by simp[Jr,JI ks us vs]
def Ww (P:Program) (t:TypeId) (x:Value) (us:List Value):Prop :=
 match P.underlying t with
 | some (.struct _)=>x=.agg us.toArray
 | some (.array _ _)=>x=.agg us.toArray
 | _=>us=[x]
theorem zJ (w:World) {m:Nat} {e:TypeId} {ks:List SK} (h:jK P m e=some ks) (hi:(P.info? e).isSome) (hc:P.cellsOf e=ks.length) {xs:Array Value} {o:Nat} (hr:ky ks (xs.toList.drop o)) :
  ∃ a,(part e xs o).run P w=.ok a w∧Ww P e a ((xs.toList.drop o).take ks.length):=by
 obtain ⟨i,hi⟩:=Option.isSome_iff_exists.1 hi
 cases m with
 | zero=>cases h
 | succ m =>
  have one:∀ k,ks=[k]→∃ v,xs[o]?=some v∧(xs.toList.drop o).take ks.length=[v]:=by
   rintro k rfl
   have hl:=vp _ _ hr
   cases hd:xs.toList.drop o with
   | nil=>rw[hd]at hl;simp at hl
   | cons v r =>
    refine ⟨v,?_,by simp⟩
    have:(xs.toList.drop o)[0]?=some v:=by rw[hd];rfl
    simpa using this
  have agg:(xs.extract o (o + P.cellsOf e)).toList=(xs.toList.drop o).take ks.length:=by
   rw[Array.toList_extract,hc];simp[List.extract]
  unfold jK at h
  cases hu:P.underlying e with
  | none=>simp[hu]at h
  | some kd =>
   rw[hu]at h
   cases kd<;>simp at h
   case bool=>obtain ⟨v,h1,h2⟩:=one _ h.symm;exact ⟨v,by simp[part,isAgg,run_underlying hu,h1],by simp only[Ww,hu];exact h2⟩
   case int k=>obtain ⟨v,h1,h2⟩:=one _ h.symm;exact ⟨v,by simp[part,isAgg,run_underlying hu,h1],by simp only[Ww,hu];exact h2⟩
   case string=>obtain ⟨v,h1,h2⟩:=one _ h.symm;exact ⟨v,by simp[part,isAgg,run_underlying hu,h1],by simp only[Ww,hu];exact h2⟩
   case struct fs=>exact ⟨.agg (xs.extract o (o + P.cellsOf e)),by simp[part,isAgg,run_underlying hu,run_sizeOf w hi],by simp only[Ww,hu];rw[← agg]⟩
   case array n e'=>exact ⟨.agg (xs.extract o (o + P.cellsOf e)),by simp[part,isAgg,run_underlying hu,run_sizeOf w hi],by simp only[Ww,hu];rw[← agg]⟩
theorem Fs {α:Type} {x:Option α} (h:¬ x.isNone=true):x.isSome=true:=by cases x<;>simp_all
def JJ (P:Program) (D:Nat) (t:TypeId) (ks:List SK):Prop :=
 ∀ (w:World) (x y:Value) (us vs:List Value),Ww P t x us→Ww P t y vs→us.length=ks.length→vs.length=ks.length→ky ks us→ky ks vs→(Op.equalIn D t x y).run P w=.ok (Jr ks us vs) w
theorem QI {m D:Nat} (IH:∀ t ks,jK P m t=some ks→JJ P D t ks):∀ (fs:List Field) (o:Nat) (ks:List SK),zI (jK P m) P o fs=some ks→∀ (w:World) (xs ys:Array Value),ky ks (xs.toList.drop o)→ky ks (ys.toList.drop o) →
  (Op.eqFields D xs ys fs).run P w=.ok (Jr ks (xs.toList.drop o) (ys.toList.drop o)) w
 | [],o,ks,h,w,xs,ys,_,_=>by cases h;simp[Op.eqFields,Jr]
 | f::fs,o,ks,h,w,xs,ys,hx,hy=>by
  unfold zI at h
  split at h
  ·cases h
  ·rename_i hn
   simp only[not_or,Decidable.not_not]at hn
   obtain ⟨dW,ew,mw⟩:=hn
   have nf:=Fs mw
   simp only[Option.bind_eq_some_iff]at h
   obtain ⟨k1,h1,h2⟩:=h
   split at h2
   ·rename_i hc
    simp only[Option.map_eq_some_iff]at h2
    obtain ⟨k2,h2,rfl⟩:=h2
    obtain ⟨x1,x2⟩:=vo _ _ _ hx
    obtain ⟨y1,y2⟩:=vo _ _ _ hy
    obtain ⟨a,pa,ha⟩:=zJ w h1 nf hc x1
    obtain ⟨b,pb,hb⟩:=zJ w h1 nf hc y1
    have lx:=vp _ _ x1
    have ly:=vp _ _ y1
    have hr:=IH _ _ h1 w a b _ _ ha hb (by rw[List.length_take];omega) (by rw[List.length_take];omega) (wZ _ _ x1) (wZ _ _ y1)
    rw[JI]at hr
    rw[List.drop_drop]at x2 y2
    have ih:=QI IH fs (o + k1.length) k2 h2 w xs ys x2 y2
    rw[JH _ _ _ _ lx ly,List.drop_drop,List.drop_drop]
    simp only[Op.eqFields,dW,ne_eq,not_false_eq_true,if_true,Sem.run_bind,ew,pa,pb,hr,Result.andThen_ok]
    cases hq:Jr k1 (xs.toList.drop o) (ys.toList.drop o) with
    | false=>simp
    | true=>simpa using ih
   ·cases h2
theorem QJ {m D:Nat} {e:TypeId} {ks:List SK} (he:jK P m e=some ks) (hi:(P.info? e).isSome) (hc:P.cellsOf e=ks.length) (IH:JJ P D e ks) (xs ys:Array Value):∀ (n i:Nat) (w:World),ky (List.replicate n ks).flatten (xs.toList.drop (i * ks.length))→ky (List.replicate n ks).flatten (ys.toList.drop (i * ks.length)) →
  (Op.eqItems D e (P.cellsOf e) xs ys (List.range' i n)).run P w=.ok (Jr (List.replicate n ks).flatten (xs.toList.drop (i * ks.length)) (ys.toList.drop (i * ks.length))) w
 | 0,i,w,_,_=>by simp[Op.eqItems,Jr]
 | n + 1,i,w,hx,hy=>by
  rw[List.replicate_succ,List.flatten_cons]at hx hy ⊢
  obtain ⟨x1,x2⟩:=vo _ _ _ hx
  obtain ⟨y1,y2⟩:=vo _ _ _ hy
  obtain ⟨a,pa,ha⟩:=zJ w he hi hc x1
  obtain ⟨b,pb,hb⟩:=zJ w he hi hc y1
  have lx:=vp _ _ x1
  have ly:=vp _ _ y1
  have hr:=IH w a b _ _ ha hb (by rw[List.length_take];omega) (by rw[List.length_take];omega) (wZ _ _ x1) (wZ _ _ y1)
  rw[JI]at hr
  have e1:i * ks.length + ks.length=(i + 1) * ks.length:=by rw[Nat.add_mul,Nat.one_mul]
  rw[List.drop_drop,e1]at x2 y2
  have ih:=QJ he hi hc IH xs ys n (i + 1) w x2 y2
  rw[JH _ _ _ _ lx ly,List.drop_drop,List.drop_drop,e1]
  rw[List.range'_succ]
  simp only[Op.eqItems,Sem.run_bind,hc,pa,pb,hr,Result.andThen_ok]
  cases hq:Jr ks (xs.toList.drop (i * ks.length)) (ys.toList.drop (i * ks.length)) with
  | false=>simp
  | true=>rw[hc]at ih;simpa using ih
theorem Ft (d:Nat):∀ (m:Nat) (t:TypeId) (ks:List SK),jK P m t=some ks→JJ P (d + m) t ks
 | 0,_,_,h=>by cases h
 | m + 1,t,ks,h=>by
  intro w x y us vs hx hy lu lv ou ov
  unfold jK at h
  cases hu:P.underlying t with
  | none=>simp[hu]at h
  | some kd =>
   rw[hu]at h
   simp only[Ww,hu]at hx hy
   cases kd<;>simp only[Option.some.injEq,reduceCtorEq]at h hx hy
   case bool =>
    subst h hx hy
    obtain ⟨⟨a,rfl⟩,_⟩:=ou
    obtain ⟨⟨b,rfl⟩,_⟩:=ov
    rw[← Nat.add_assoc,run_equalIn_bool' w _ t a b hu]
    simp[Jr,BU]
   case int k =>
    subst h hx hy
    obtain ⟨⟨a,rfl⟩,_⟩:=ou
    obtain ⟨⟨b,rfl⟩,_⟩:=ov
    rw[← Nat.add_assoc,run_equalIn_int w _ t k k a b hu]
    simp[Jr,BU]
   case string =>
    subst h hx hy
    obtain ⟨⟨a,rfl⟩,_⟩:=ou
    obtain ⟨⟨b,rfl⟩,_⟩:=ov
    rw[← Nat.add_assoc,run_equalIn_string w _ t a b hu]
    simp[Jr,BU]
   case struct fs =>
    subst hx hy
    split at h
    ·cases h
    ·rename_i hp
     have jf:P.fieldsOf t=fs:=by simp[Program.fieldsOf,hu]
     rw[← Nat.add_assoc,run_equalIn_struct w (d + m) t _ _ (by rw[jf];exact hu) (by simpa using hp),jf]
     have:=QI (Ft d m) fs.toList 0 ks h w us.toArray vs.toArray (by simpa using ou) (by simpa using ov)
     simpa using this
   case array n e =>
    subst hx hy
    split at h
    ·cases h
    ·rename_i hi
     replace hi:=Fs hi
     obtain ⟨i,mj⟩:=Option.isSome_iff_exists.1 hi
     simp only[Option.bind_eq_some_iff]at h
     obtain ⟨k1,h1,h2⟩:=h
     split at h2
     ·rename_i hc
      cases h2
      rw[← Nat.add_assoc,run_equalIn_array w (d + m) _ _ hu mj,List.range_eq_range']
      have:=QJ h1 hi hc (Ft d m e k1 h1) us.toArray vs.toArray n 0 w (by simpa using ou) (by simpa using ov)
      simpa using this
     ·cases h2
def Jg:AV→Option SK
 | .int k _=>some (.int k)
 | .bool _=>some .bool
 | .str _=>some .str
 | _=>none
theorem zK {g:Nat→GM} {W:Nat→Prop} {w:World}:∀ (ks:List SK) (cs:List AV) (us:List Value),cs.map Jg=ks.map some→us.length=cs.length→(∀ j,j < cs.length→VR g W w (cs.getD j .any) (us.getD j undef))→ky ks us
 | [],_,us,_,_,_=>by cases us<;>trivial
 | _::_,[],_,h,_,_=>by simp at h
 | _::_,_::_,[],_,h,_=>by simp at h
 | k::ks,x::cs,u::us,h,hl,hv=>by
  simp only[List.map_cons,List.cons.injEq]at h
  have h0:=hv 0 av
  simp only[List.getD_cons_zero]at h0
  refine ⟨?_,zK ks cs us h.2 (by simpa using hl) fun j hj=>by simpa using hv (j + 1) (by simp;omega)⟩
  have hk:=h.1
  cases x<;>simp[Jg]at hk<;>subst hk<;>cases h0<;>exact ⟨_,rfl⟩
theorem JK {g:Nat→GM} {W:Nat→Prop} {w:World}:∀ (ks:List SK) (cs ds:List AV) (us vs:List Value),cs.map Jg=ks.map some→ds.map Jg=ks.map some→us.length=cs.length→vs.length=ds.length→(∀ j,j < cs.length→VR g W w (cs.getD j .any) (us.getD j undef))→(∀ j,j < ds.length→VR g W w (ds.getD j .any) (vs.getD j undef)) →
  (Jr ks us vs=true ↔ cs=ds)
 | [],[],[],_,_,_,_,_,_,_,_=>by simp[Jr]
 | [],[],_::_,_,_,_,h,_,_,_,_=>by simp at h
 | [],_::_,_,_,_,h,_,_,_,_,_=>by simp at h
 | _::_,[],_,_,_,h,_,_,_,_,_=>by simp at h
 | _::_,_::_,[],_,_,_,h,_,_,_,_=>by simp at h
 | _::_,_::_,_::_,[],_,_,_,h,_,_,_=>by simp at h
 | _::_,_::_,_::_,_::_,[],_,_,_,h,_,_=>by simp at h
 | k::ks,x::cs,y::ds,u::us,v::vs,hc,hd,lu,lv,hu,hv=>by
  simp only[List.map_cons,List.cons.injEq]at hc hd
  have h0:=hu 0 av
  have h1:=hv 0 av
  simp only[List.getD_cons_zero]at h0 h1
  have ih:=JK ks cs ds us vs hc.2 hd.2 (by simpa using lu) (by simpa using lv) (fun j hj=>by simpa using hu (j + 1) (by simp;omega)) (fun j hj=>by simpa using hv (j + 1) (by simp;omega))
  simp only[Jr,Bool.and_eq_true,ih,List.cons.injEq]
  refine and_congr_left fun _=>?_
  have k1:=hc.1
  have k2:=hd.1
  cases x<;>simp[Jg]at k1<;>subst k1<;>cases y<;>simp[Jg]at k2<;>cases h0<;>cases h1<;>simp_all [BU,ByteArray.toList_eq]
theorem QK {o:Oper} {ne:Bool} {t:TypeId} {xs:List Operand} (h:Yf P o=some (.cA ne t,xs)):∃ x y u,o.op=.binOp (bif ne then .neq else .eql) t x y u∧xs=[x,y]:=by
 unfold Yf at h
 repeat' split at h
 all_goals first
  | (simp only[Option.some.injEq,Prod.mk.injEq,PK.cA.injEq]at h;obtain ⟨⟨rfl,rfl⟩,rfl⟩:=h;rename_i bl;exact ⟨_,_,_,by rw[bl];rfl,rfl⟩)
  | (simp at h;done)
  | (cases h;done)
  | (simp[Option.map_eq_some_iff]at h;done)
theorem JL {c:Cx} {ne:Bool} {t:TypeId} {ks:List SK} {cs ds:List AV} {b:Bool} (hs:jK P 100 t=some ks) (hk:(match P.underlying t with|some (.struct _)=>true|some (.array _ _)=>true|_=>false)=true) (hm:P.eqGuardType P.depth t=false)
  (hc:cs.map Jg=ks.map some) (hd:ds.map Jg=ks.map some) (hb:b=true ↔ cs=ds):pD P c (.cA ne t) [.agg cs,.agg ds] (.bool (ne != b)):=by
 intro o ys aJ g W a w _ _ hv K Q hK
 obtain ⟨x,y,u,bl,rfl⟩:=QK aJ
 obtain ⟨hx,hy,_⟩:=hv
 obtain ⟨xs,ex,lx,_,vx⟩:=Ub hx
 obtain ⟨zs,ey,ly,_,vy⟩:=Ub hy
 have QL:xs.toList.length=cs.length:=by simpa using lx
 have QM:zs.toList.length=ds.length:=by simpa using ly
 have gx:∀ j,xs.toList.getD j undef=xs.getD j undef:=fun j=>by simp[Array.getD_eq_getD_getElem?,List.getD]
 have gy:∀ j,zs.toList.getD j undef=zs.getD j undef:=fun j=>by simp[Array.getD_eq_getD_getElem?,List.getD]
 have QN:∀ j,j < cs.length→VR g W w (cs.getD j .any) (xs.toList.getD j undef):=fun j hj=>by rw[gx];exact vx j hj
 have QO:∀ j,j < ds.length→VR g W w (ds.getD j .any) (zs.toList.getD j undef):=fun j hj=>by rw[gy];exact vy j hj
 have kl:cs.length=ks.length:=by simpa using congrArg List.length hc
 have kl':ds.length=ks.length:=by simpa using congrArg List.length hd
 have hold:∀ z:Array Value,Ww P t (.agg z) z.toList:=fun z=>by
  unfold Ww
  split at hk<;>simp_all
 have hr:=Ft (P:=P) 9900 100 t ks hs w _ _ _ _ (hold xs) (hold zs) af af (zK ks cs _ hc QL QN) (zK ks ds _ hd QM QO)
 have he:Jr ks xs.toList zs.toList=b:=by
  have:=(JK ks cs ds _ _ hc hd QL QM QN QO).trans hb.symm
  cases hq:Jr ks xs.toList zs.toList<;>cases b<;>simp_all
 rw[he]at hr
 have run:(execOp a.eval o).run P w=.ok (.value (.bool (ne != b))) w:=by
  unfold execOp
  cases ne
  ·simp only[bl,ex,ey,cond_false,Sem.run_bind,run_eqGuard_agg w _ t x y xs zs hm,run_eql_struct,hr,Result.andThen_ok,Sem.run_pure];cases b<;>rfl
  ·simp only[bl,ex,ey,cond_true,Sem.run_bind,run_eqGuard_agg w _ t x y xs zs hm,run_neq_struct,hr,Result.andThen_ok,Sem.run_pure];cases b<;>rfl
 unfold Oper.wp
 rw[run]
 exact hK _ _ (Fr.refl _ _) (.bool _)
end
section
variable {P:Program} {c:Cx} {g:Nat→GM} {s:FS} {a:Act} {w w':World}
theorem R.ng (hR:R c g s a w) {b:Nat} (bq:s.H b=.free):R c (Zg g b .ph) (s.aK b (.cells [])) a w:=by
 have jl:g b=.un:=by
  have:=hR.h b;rw[bq]at this;generalize g b=m at this;cases this;rfl
 have hg:=zb (m:=.ph) jl
 have dx:Zg g b .ph b=.ph:=by simp[Zg]
 have en:∀ i,i≠b→Zg g b .ph i=g i:=fun i h=>by simp[Zg,h]
 have hl:∀ i k,((s.aK b (.cells [])).H i).live→Zg g b .ph i=.re k→i≠b∧(s.H i).live∧g i=.re k:=fun i k h e=>by
  have bN:i≠b:=fun h=>by subst h;rw[dx]at e;cases e
  rw[FS.bc,if_neg (fun h=>bN h.symm)]at h
  rw[en i bN]at e
  exact ⟨bN,h,e⟩
 have hW:∀ k,Qo c (Zg g b .ph) (s.aK b (.cells [])) k→Qo c g s k:=by
  rintro k (h|⟨i,h1,h2⟩)
  ·exact .inl h
  ·exact .inr ⟨i,(hl i k h1 h2).2.1,(hl i k h1 h2).2.2⟩
 have hf:=Fr.refl w (Qo c g s)
 refine ⟨hR.size,hR.dL,fun i=>(hR.t i).mono hf (fun k _=>hW k) hg,fun i=>(hR.gl i).mono hf (fun k _=>hW k) (fun _ _=>rfl),fun i=>?_,fun p q m hp hq h1 h2=>?_,fun p m hp h1=>?_,hR.fr,hR.xs,ET hR jl⟩
 ·rw[FS.bc]
  split
  ·rename_i e;subst e;rw[dx];exact .ph
  ·rename_i e
   rw[en i fun h=>e h.symm]
   exact (hR.h i).mono hf (fun k _=>hW k) hg fun _ _ _=>rfl
 ·exact hR.inj p q m (hl p m hp h1).2.1 (hl q m hq h2).2.1 (hl p m hp h1).2.2 (hl q m hq h2).2.2
 ·exact hR.old p m (hl p m hp h1).2.1 (hl p m hp h1).2.2
theorem QP (k o:Nat) (t:TypeId) (fz:Nat × Nat):∀ (vs:List Value) (i:Nat) (cur:Array Value) (w:World),w.heap[k]?=some (.cells cur t fz)→(fz=(0,0)∨cur.size≤fz.1)→o + i + vs.length≤cur.size→(∀ v ∈ vs,v.oneCell'=true) →
  (storeCells ⟨k,o,none⟩ vs i).run P w=.ok () (w.setRow k (cur.toList.take (o + i)++vs++cur.toList.drop (o + i + vs.length)).toArray)
 | [],i,cur,w,hg,_,_,_=>by
  simp only[storeCells,List.append_nil,List.length_nil,Nat.add_zero,List.take_append_drop,Array.toArray_toList]
  rw[setRow_self w k cur t fz hg]
  rfl
 | v::rest,i,cur,w,hg,hz,hl,h1=>by
  have hi:o + i < cur.size:=by simp at hl;omega
  have dy:(⟨k,o,none⟩:Addr).add i=⟨k,o + i,none⟩:=by unfold Addr.add;split<;>simp_all
  have eE:w.cell? ⟨k,o + i,none⟩=some cur[o + i]:=by simp[World.cell?,hg,hi]
  have JM:w.frozen? ⟨k,o + i,none⟩=false:=by
   simp only[World.frozen?,hg]
   rcases hz with rfl|hz
   ·simp
   ·have:¬ fz.1≤o + i:=by omega
    simp[this]
  have ep:(store ((⟨k,o,none⟩:Addr).add i) v).run P w=.ok () (w.setRow k (cur.setIfInBounds (o + i) v)):=by
   rw[dy,run_store P w _ v _ (h1 v av),eE]
   simp[JM,setCell_eq_setRow w k (o + i) cur t fz v hg]
  have ih:=QP k o t fz rest (i + 1) (cur.setIfInBounds (o + i) v) (w.setRow k (cur.setIfInBounds (o + i) v)) (setRow_heap w k cur _ t _ hg) (by simpa using hz) (by simp at hl ⊢;omega) (fun x hx=>h1 x (by simp[hx]))
  simp only[storeCells,Sem.run_bind,ep,Result.andThen_ok,ih,setRow_setRow]
  congr 3
  have e:=list_seg_step cur.toList (o + i) v rest (by simp at hl ⊢;omega)
  simpa [Array.toList_setIfInBounds,Nat.add_assoc] using e
theorem QQ {t u ty e:TypeId} {i:TypeInfo} {z:Value} (ht:P.underlying t=some (.slice e)) (hu:u=t∨P.underlying u=some .string) (hi:P.info? e=some i) (hz:i.zero=some z)
  (ba:Option Addr) (dd fm:Nat) (x:Value) (m:Nat) (dG news:List Value) (w:World) (hlen:∀ w,(Builtin.lenOf x).run P w=.ok m w)
  (b6:∀ w':World,w'.heap=w.heap→(Builtin.firstCells i.size m x).run P w'=.ok news.toArray w') (hold:∀ w':World,w'.heap=w.heap→(Builtin.firstCells i.size dd (.slice ba dd fm)).run P w'=.ok dG.toArray w')
  (hg:fm < dd + m) (pE:((dd + m:Nat):Int)≤9223372036854775807) (ic:Builtin.nextslicecap (dd + m) fm * i.bytes≤281474976710656) :
  (Builtin.append_ #[t,u] ty #[.slice ba dd fm,x]).run P w =
   .ok (.slice (some ⟨w.heap.size,0,none⟩) (dd + m) (grownCap w (dd + m) fm e))
    (w.drew.alloc (.cells (dG.toArray++news.toArray++Builtin.zeroCells z.cells (grownCap w (dd + m) fm e - (dd + m))) e)):=by
 have hn:¬ (dd + m≤fm):=by omega
 have BV:¬ (9223372036854775807 < ((dd:Int) + (m:Int))):=by omega
 have BW:¬ (281474976710656 < Builtin.nextslicecap (dd + m) fm * i.bytes):=by omega
 have hf:=b6 w.drew rfl
 have QR:=hold w.drew rfl
 rcases hu with rfl|hu
 ·simp[Builtin.append_,run_underlying ht,sizeOf,typeInfo,zeroValue,hi,hz,hlen,hn,BV,BW,Question.forced,hf,QR,newRow,grownCap]
  congr 2;apply Array.ext';simp
 ·simp[Builtin.append_,run_underlying ht,run_underlying hu,sizeOf,typeInfo,zeroValue,hi,hz,hlen,hn,BV,BW,Question.forced,hf,QR,newRow,grownCap]
  congr 2;apply Array.ext';simp
theorem QS {t u ty e:TypeId} {i:TypeInfo} (ht:P.underlying t=some (.slice e)) (hu:u=t∨P.underlying u=some .string) (hi:P.info? e=some i)
  (k dd fm:Nat) (x:Value) (m:Nat) (news:List Value) (cur:Array Value) (e':TypeId) (fz:Nat × Nat) (w:World) (hlen:∀ w,(Builtin.lenOf x).run P w=.ok m w) (hk:w.heap[k]?=some (.cells cur e' fz)) (pB:fz=(0,0)∨cur.size≤fz.1)
  (b6:∀ w':World,w'.heap=w.heap→(Builtin.firstCells i.size m x).run P w'=.ok news.toArray w') (h1:∀ u ∈ news,u.oneCell'=true)
  (dX:dd + m≤fm) (ic:dd * i.size + news.length≤cur.size) :
  (Builtin.append_ #[t,u] ty #[.slice (some ⟨k,0,none⟩) dd fm,x]).run P w =
   .ok (.slice (some ⟨k,0,none⟩) (dd + m) fm) (w.setRow k (cur.toList.take (dd * i.size)++news++cur.toList.drop (dd * i.size + news.length)).toArray):=by
 have ep:=QP (P:=P) k (dd * i.size) e' fz news 0 cur w hk pB (by simpa using ic) h1
 simp only[Nat.add_zero]at ep
 have hf:=b6 w rfl
 rcases hu with rfl|hu
 ·simp[Builtin.append_,run_underlying ht,sizeOf,typeInfo,hi,hlen,dX,hf,Addr.add_lit,ep]
 ·simp[Builtin.append_,run_underlying ht,run_underlying hu,sizeOf,typeInfo,hi,hlen,dX,hf,Addr.add_lit,ep]
theorem QT {t u ty e:TypeId} {i:TypeInfo} (ht:P.underlying t=some (.slice e)) (hu:u=t∨P.underlying u=some .string) (hi:P.info? e=some i)
  (ba:Option Addr) (dd fm:Nat) (x:Value) (w:World) (hlen:∀ w,(Builtin.lenOf x).run P w=.ok 0 w)
  (b6:∀ w':World,w'.heap=w.heap→(Builtin.firstCells i.size 0 x).run P w'=.ok #[] w') (dX:dd≤fm) :
  (Builtin.append_ #[t,u] ty #[.slice ba dd fm,x]).run P w=.ok (.slice ba dd fm) w:=by
 have hf:=b6 w rfl
 rcases hu with rfl|hu
 ·cases ba<;>simp[Builtin.append_,run_underlying ht,sizeOf,typeInfo,hi,hlen,dX,hf,storeCells]
 ·cases ba<;>simp[Builtin.append_,run_underlying ht,run_underlying hu,sizeOf,typeInfo,hi,hlen,dX,hf,storeCells]
def Xm:AV→Nat
 | .isl m _=>m
 | .sl _ _ _ m _=>m
 | .str l=>l.length
 | _=>0
theorem JN (es b o m cc:Nat):Xm (.sl es b o m cc)=m:=rfl
theorem Xv5 (m:Nat) (ds:List AV):Xm (.isl m ds)=m:=rfl
theorem Xv9 (l:List UInt8):Xm (.str l)=l.length:=rfl
theorem Xp3:Xm .nils=0:=rfl
def Xz (s:FS) (es:Nat):AV→List AV
 | .isl m ds=>ds.take (m * es)
 | .sl _ b o m _=>((Zb (s.H b)).drop o).take (m * es)
 | .str l=>Xq l
 | _=>[]
def Fu:Value→Prop
 | .slice _ 0 _=>True
 | _=>False
theorem Xja {v:Value} (h:Fu v):∃ a c,v=.slice a 0 c:=by
 unfold Fu at h;split at h
 ·exact ⟨_,_,rfl⟩
 ·exact h.elim
def kZ (s:FS) (es:Nat) (str:Bool):AV→Prop
 | .isl m ds=>str=false∧m * es≤ds.length
 | .sl es2 b o m _=>str=false∧es2=es∧o + m * es≤(Zb (s.H b)).length
 | .nils=>str=false
 | .lit v=>str=false∧Fu v
 | .str _=>str=true∧es=1
 | _=>False
def ju:AV→Option Nat
 | .sl _ b _ _ _=>some b
 | _=>none
def tN (s:FS) (es:Nat):AV→Prop
 | .sl es2 b o n _=>es2=es∧o=0∧n * es≤(Zb (s.H b)).length∧(s.H b).live
 | .nils=>True
 | _=>False
def FS.cx (s:FS):Option Nat→FS
 | some b=>s.aK b .dead
 | none=>s
theorem Xij {s:FS} {b:Nat} {n:Nat} (h:n≤(Zb (s.H b)).length) (hn:0 < n):∃ cs,s.H b=.cells cs:=by
 cases hh:s.H b with
 | cells cs=>exact ⟨cs,rfl⟩
 | _=>rw[hh]at h;simp[Zb]at h;omega
theorem JO {k o:Nat} {cur:Array Value} {e:TypeId} {fz:Nat × Nat} (hb:w.heap[k]?=some (.cells cur e fz)) {n:Nat} (hn:o + n≤cur.size) :
  ∀ (w':World),w'.heap=w.heap→∀ j v,((cur.toList.drop o).take n)[j]?=some v→w'.cell? ((⟨k,o,none⟩:Addr).add j)=some v:=by
 intro w' hw j v hv
 have dy:(⟨k,o,none⟩:Addr).add j=⟨k,o + j,none⟩:=by unfold Addr.add;split<;>simp_all
 rw[dy]
 rw[List.getElem?_take]at hv
 split at hv
 ·rw[List.getElem?_drop]at hv
  simp only[World.cell?,hw,hb]
  simpa using hv
 ·cases hv
theorem zL (es m:Nat) {a':Option Addr} {len cap:Nat} {vs:List Value} (hl:vs.length=m * es) (h:∀ w':World,w'.heap=w.heap→∀ j v,vs[j]?=some v→∃ a0,a'=some a0∧w'.cell? (a0.add j)=some v) :
  ∀ w':World,w'.heap=w.heap→(Builtin.firstCells es m (.slice a' len cap)).run P w'=.ok vs.toArray w':=by
 intro w' hw
 cases a' with
 | none =>
  cases vs with
  | nil=>simp[Builtin.firstCells]
  | cons v vs=>obtain ⟨a0,h1,_⟩:=h w' hw 0 v rfl;cases h1
 | some a0 =>
  refine run_firstCells_some w' es m a0 len cap vs hl fun j v hj=>?_
  obtain ⟨a1,h1,h2⟩:=h w' hw j v hj
  cases h1;exact h2
theorem Fv (hR:R c g s a w) {es:Nat} {str:Bool} {x:AV} {u:Value} (hx:VR g (Qo c g s) w x u) (ok:kZ s es str x) :
  ∃ news:List Value,(∀ w,(Builtin.lenOf u).run P w=.ok (Xm x) w)∧(∀ w':World,w'.heap=w.heap→(Builtin.firstCells es (Xm x) u).run P w'=.ok news.toArray w') ∧
   news.length=Xm x * es∧(Xz s es x).length=Xm x * es∧(∀ v ∈ news,v.oneCell'=true)∧∀ j,j < Xm x * es→VR g (Qo c g s) w ((Xz s es x).getD j .any) (news.getD j undef):=by
 cases x<;>simp only[kZ]at ok
 case isl m ds =>
  obtain ⟨rfl,hl⟩:=ok
  obtain ⟨ad,cap,us,rfl,h1,h2,h3,h4⟩:=sm hx
  simp only[Xm]
  have hlen:((List.range (m * es)).map us).length=m * es:=by simp
  have aW:∀ j,j < m * es→((List.range (m * es)).map us).getD j undef=us j:=fun j hj=>by simp[List.getD,hj]
  refine ⟨(List.range (m * es)).map us,fun w=>rfl,zL es m hlen fun w' hw j v hj=>?_,hlen,by simp[Xz];omega,fun v hv=>?_,fun j hj=>?_⟩
  ·obtain ⟨cU,rfl⟩:=List.getElem?_eq_some_iff.1 hj
   rw[hlen]at cU
   obtain ⟨k,o,rfl,h5,_⟩:=h3 j af
   refine ⟨_,rfl,?_⟩
   have dy:(⟨k,o,none⟩:Addr).add j=⟨k,o + j,none⟩:=by unfold Addr.add;split<;>simp_all
   rw[dy]
   simp only[List.getElem_map,List.getElem_range]
   rw[← h5];unfold Uj World.cell?;simp only[hw]
  ·obtain ⟨j,hj,rfl⟩:=List.mem_map.1 hv
   simp at hj
   obtain ⟨k,o,_,_,_,h6⟩:=h3 j af
   exact h6
  ·rw[aW j hj]
   have:(Xz s es (.isl m ds)).getD j .any=ds.getD j .any:=by simp[Xz,List.getD,List.getElem?_take,hj]
   rw[this];exact h4 j af
 case sl es2 b o m cc =>
  obtain ⟨rfl,rfl,hl⟩:=ok
  simp only[Xm]
  rcases px hx with ⟨k,cap,e,cur,fz,rfl,h1,h2,h3,h4,h5,h6⟩|⟨ad,rfl,h1,rfl,rfl⟩
  ·by_cases dU:0 < m * es2
   ·obtain ⟨cs,iw⟩:=Xij (s:=s) (b:=b) (n:=o + m * es2) hl af
    have hb:=hR.h b
    rw[h1,iw]at hb
    cases hb with
    | cells hb gF pF hv hf =>
    rename_i eK e' QU
    rw[h5]at hb;cases hb
    have hlc:o + m * es2≤cs.length:=by rw[iw]at hl;exact hl
    have hlen:((cur.toList.drop o).take (m * es2)).length=m * es2:=by simp;omega
    have aW:∀ j,j < m * es2→((cur.toList.drop o).take (m * es2)).getD j undef=cur.getD (o + j) undef:=fun j hj=>by simp[List.getD,List.getElem?_take,hj,Array.getD_eq_getD_getElem?]
    refine ⟨(cur.toList.drop o).take (m * es2),fun w=>rfl,zL es2 m hlen fun w' hw j v hj=>⟨_,rfl,JO h5 af w' hw j v hj⟩,hlen,by simp[Xz,iw,Zb];omega,fun v hv=>?_,fun j hj=>?_⟩
    ·obtain ⟨j,hj,rfl⟩:=List.getElem_of_mem hv
     rw[hlen]at hj
     have:=pF (o + j) af
     have hg:=aW j hj
     simp only[List.getD,List.getElem?_eq_getElem (show j < ((cur.toList.drop o).take (m * es2)).length by omega),Option.getD_some]at hg
     rw[hg];exact this
    ·rw[aW j hj]
     have:(Xz s es2 (.sl es2 b o m cc)).getD j .any=cs.getD (o + j) .any:=by simp[Xz,iw,Zb,List.getD,List.getElem?_take,hj]
     rw[this];exact hv _ af
   ·have hz:m * es2=0:=by omega
    refine ⟨[],fun w=>rfl,zL es2 m (by simp[hz]) fun w' hw j v hj=>by simp at hj,by simp[Xm,hz],by simp[Xm,Xz,hz],fun v hv=>(by cases hv),fun j hj=>af⟩
  ·refine ⟨[],fun w=>rfl,zL es2 0 av fun w' hw j v hj=>by simp at hj,by simp[Xm],by simp[Xm,Xz],fun v hv=>(by cases hv),fun j hj=>af⟩
 case lit v =>
  obtain ⟨_,ok⟩:=ok
  obtain ⟨ad,cap,rfl⟩:=Xja ok
  have:u=.slice ad 0 cap:=by cases hx;rfl
  subst this
  simp only[Xm]
  refine ⟨[],fun w=>rfl,zL es 0 av fun w' hw j v hj=>by simp at hj,by simp[Xm],by simp[Xm,Xz],fun v hv=>(by cases hv),fun j hj=>af⟩
 case nils =>
  obtain ⟨ad,rfl⟩:=E8 hx
  simp only[Xm]
  refine ⟨[],fun w=>rfl,zL es 0 av fun w' hw j v hj=>by simp at hj,by simp[Xm],by simp[Xm,Xz],fun v hv=>(by cases hv),fun j hj=>af⟩
 case str l =>
  obtain ⟨rfl,rfl⟩:=ok
  cases hx
  simp only[Xm]
  refine ⟨l.map fun b=>.int .u8 b.toNat,fun w=>?_,fun w' _=>?_,by simp[Xm],by simp[Xm,Xz,Xq],fun v hv=>?_,fun j hj=>?_⟩
  ·simp[Builtin.lenOf,Xm,ByteArray.size]
  ·have hx:(⟨l.toArray⟩:ByteArray).extract 0 l.length=⟨l.toArray⟩:=by
    have:l.length=(⟨l.toArray⟩:ByteArray).size:=rfl
    rw[this,ByteArray.extract_zero_size]
   simp[Builtin.firstCells,Xm,hx]
  ·obtain ⟨b,_,rfl⟩:=List.mem_map.1 hv;rfl
  ·simp only[Nat.mul_one]at hj
   have e1:(Xz s 1 (.str l)).getD j .any=.int .u8 (l[j]).toNat:=by simp[Xz,Xq,List.getD,hj]
   have e2:(l.map fun b:UInt8=>Value.int .u8 b.toNat).getD j undef=.int .u8 (l[j]).toNat:=by simp[List.getD,hj]
   rw[e1,e2];exact .int _ _
theorem BX {g:Nat→GM} {b:Nat} {m:GM}:Zg g b m b=m:=by simp[Zg]
theorem QV (hR:R c g s a w) {nm:Nat} (bq:s.H nm=.free) {es N cap:Nat} {e:TypeId} {cs:List AV} {vs:List Value} {zs:Array Value} (hl:vs.length=N * es) (aX:cs.length=N * es) (kz:zs.size=(cap - N) * es) (hN:N≤cap) (hm:cap≤maxLen)
  (h1:∀ v ∈ vs,v.oneCell'=true) (hv:∀ j,j < N * es→VR g (Qo c g s) w (cs.getD j .any) (vs.getD j undef)) :
  ∃ g',R c g' (s.aK nm (.cells cs)) a (w.drew.alloc (.cells (vs.toArray++zs) e))∧VR g' (Qo c g' (s.aK nm (.cells cs))) (w.drew.alloc (.cells (vs.toArray++zs) e)) (.sl es nm 0 N N) (.slice (some ⟨w.heap.size,0,none⟩) N cap):=by
 have la:R c g s a w.drew:=hR.grow (Fr.drew w _)
 have iu:∀ k,Qo c g s k→k < w.heap.size:=by
  rintro k (h|⟨b',hl,fk⟩)
  ·have:=(hR.xs k h).1;have:=hR.fr.size;omega
  ·exact BR.lt (fk ▸ hR.h b') hl
 have aW:∀ j,j < N * es→(vs.toArray++zs).getD j undef=vs.getD j undef:=fun j hj=>by
  simp[Array.getD_eq_getD_getElem?,List.getD,Array.getElem?_append,hl,hj]
 have b6:=heap_alloc_new w.drew (.cells (vs.toArray++zs) e)
 have bg:=la.new (b:=nm) (x:=.cells cs) (.cells (vs.toArray++zs) e) bq trivial fun g' fk=>by
  refine .cells (cur:=vs.toArray++zs) (e:=e) (fz:=(0,0)) b6 (by simp[hl,aX]) (fun j hj=>?_) (fun j hj=>?_) (.inl rfl)
  ·rw[aW j af]
   have cU:j < vs.length:=by omega
   simp only[List.getD,List.getElem?_eq_getElem cU,Option.getD_some]
   exact h1 _ (List.getElem_mem cU)
  ·rw[aW j af]
   exact ((hv j af).mono (Fr.drew w _) (fun _ _ h=>h) (fun _ _=>rfl)).mono (Fr.alloc w.drew _ _) (fun k hk h=>h.resolve_right (by simp at hk;simp;omega)) fk
 refine ⟨_,bg,.sl (k:=w.heap.size) (e:=e) (cur:=vs.toArray++zs) (fz:=(0,0)) BX (Nat.le_refl _) hN hm b6 ?_⟩
 simp[hl,kz,← Nat.add_mul]
 exact Nat.mul_le_mul_right _ af
theorem pG {s s':FS} (hT:∀ i,s.T i=s'.T i) (hH:∀ i,s.H i=s'.H i):s=s':=by
 cases s;cases s';congr 1<;>funext i
 ·exact hT i
 ·exact hH i
theorem QW {w:World} {k:Nat} {cur new:Array Value} {e:TypeId} {fz:Nat × Nat} (hk:w.heap[k]?=some (.cells cur e fz)) (hs:new.size=cur.size):Fr w (w.setRow k new) (fun i=>i=k) :=
 ⟨rfl,rfl,rfl,by simp[World.setRow],fun i _ bN=>setRow_other w k i new bN,fun i eK e' QU hi=>by
  by_cases h:i=k
  ·subst h
   rw[hk]at hi;cases hi
   exact ⟨new,setRow_heap w i cur new e fz hk,hs⟩
  ·exact ⟨eK,by rw[setRow_other w k i new h];exact hi,rfl⟩⟩
theorem QX (hR:R c g s a w) {nm:Nat} (bq:s.H nm=.free) {t u ty e:TypeId} {i:TypeInfo} {z:Value} {es:Nat} (ht:P.underlying t=some (.slice e)) (hu:u=t∨P.underlying u=some .string) (hi:P.info? e=some i) (hz:i.zero=some z) (cR:i.size=es) (kz:z.cells.size=es)
  (ad:Option Addr) {ux:Value} {m:Nat} {cs:List AV} {news:List Value} (q1:∀ w,(Builtin.lenOf ux).run P w=.ok m w) (q2:∀ w':World,w'.heap=w.heap→(Builtin.firstCells es m ux).run P w'=.ok news.toArray w')
  (q3:news.length=m * es) (q4:cs.length=m * es) (q5:∀ v ∈ news,v.oneCell'=true) (q6:∀ j,j < m * es→VR g (Qo c g s) w (cs.getD j .any) (news.getD j undef)) (pE:m≤maxLen) (qo:m * i.bytes≤140737488355328) :
  ∃ g' v' w',(Builtin.append_ #[t,u] ty #[.slice ad 0 0,ux]).run P w=.ok v' w'∧R c g' (s.aK nm (.cells cs)) a w'∧VR g' (Qo c g' (s.aK nm (.cells cs))) w' (.sl es nm 0 m m) v':=by
 by_cases hm:m=0
 ·subst hm
  have hn:news=[]:=List.eq_nil_of_length_eq_zero af
  have hc:cs=[]:=List.eq_nil_of_length_eq_zero af
  subst hn hc
  exact ⟨_,_,_,QT ht hu hi ad 0 0 ux w q1 (by rw[cR];exact q2) (Nat.le_refl _),hR.ng bq,.ku BX rfl⟩
 ·have hr:=QQ (ty:=ty) (P:=P) ht hu hi hz ad 0 0 ux m [] news w q1 (by rw[cR];exact q2) (fun w' _=>by cases ad<;>simp[Builtin.firstCells,loadCells,loadCellsFrom]) (by omega) (by simp only[maxLen]at pE;omega) (growslice_fits (by omega) (by simpa using qo))
  simp only[Nat.zero_add,List.nil_append]at hr
  have iu:=Ig w m 0 e
  obtain ⟨g',h1,h2⟩:=QV (es:=es) (N:=m) (cap:=grownCap w m 0 e) (e:=e) (zs:=Builtin.zeroCells z.cells (grownCap w m 0 e - m)) hR bq q3 q4 (by rw[size_zeroCells,kz]) iu (grownCap_le_maxLen w m 0 e pE) q5 q6
  exact ⟨g',_,_,by rw[hr];simp,h1,h2⟩
theorem Xry (hR:R c g s a w) {nm:Nat} (bq:s.H nm=.free) {t u ty e:TypeId} {i:TypeInfo} {z:Value} {es:Nat} (ht:P.underlying t=some (.slice e)) (hu:u=t∨P.underlying u=some .string) (hi:P.info? e=some i) (hz:i.zero=some z) (cR:i.size=es) (kz:z.cells.size=es)
  {vb vx:AV} {ub ux:Value} {str:Bool} (hb:VR g (Qo c g s) w vb ub) (hx:VR g (Qo c g s) w vx ux) (Fw:tN s es vb) (w3:kZ s es str vx) (pE:Xm vb + Xm vx≤maxLen) (qo:(Xm vb + Xm vx) * i.bytes≤140737488355328) :
  ∃ g' v' w',(Builtin.append_ #[t,u] ty #[ub,ux]).run P w=.ok v' w'∧R c g' ((s.cx (ju vb)).aK nm (.cells (Xz s es vb++Xz s es vx))) a w' ∧
   VR g' (Qo c g' ((s.cx (ju vb)).aK nm (.cells (Xz s es vb++Xz s es vx)))) w' (.sl es nm 0 (Xm vb + Xm vx) (Xm vb + Xm vx)) v':=by
 obtain ⟨news,q1,q2,q3,q4,q5,q6⟩:=Fv (P:=P) hR hx w3
 cases vb<;>simp only[tN]at Fw
 case nils =>
  obtain ⟨ad,rfl⟩:=E8 hb
  simp only[Xm,Xz,ju,FS.cx,Nat.zero_add,List.nil_append]at pE qo ⊢
  exact QX hR bq ht hu hi hz cR kz ad q1 q2 q3 q4 q5 q6 pE qo
 case sl es2 b o n cc =>
  obtain ⟨rfl,rfl,hl,aO⟩:=Fw
  have bN:nm≠b:=fun h=>by subst h;rw[bq]at aO;exact aO
  have ca:g b≠.un:=fun h=>by
   have:=hR.h b;rw[h]at this
   exact this.fU aO
  have jg:(s.aK b .dead).H nm=.free:=by rw[FS.bc,if_neg fun h=>bN h.symm,bq]
  have nh:=hR.kill ca
  have hWk:∀ k,Qo c g (s.aK b .dead) k→Qo c g s k:=ES
  obtain ⟨dG,o1,o2,o3,o4,o5,o6⟩:=Fv (P:=P) (str:=false) hR hb (x:=.sl es2 b 0 n cc) ⟨rfl,rfl,by simpa using hl⟩
  have BY:∀ {x:AV} {y:Value},VR g (Qo c g s) w x y→VR g (Qo c g (s.aK b .dead)) w x y:=fun h=>h.mono (Fr.refl _ _) (fun k _=>hWk k) (fun _ _=>rfl)
  simp only[JN]at pE qo o1 o2 o3 o4 o6 ⊢
  simp only[ju,FS.cx]
  rcases px hb with ⟨k,cap,e',cur,fz,rfl,h1,h2,h3,h4,h5,h6⟩|⟨ad,rfl,h1,rfl,rfl⟩
  ·have hlen:(dG++news).length=(n + Xm vx) * es2:=by rw[List.length_append,o3,q3,Nat.add_mul]
   have vq:(Xz s es2 (.sl es2 b 0 n cc)++Xz s es2 vx).length=(n + Xm vx) * es2:=by rw[List.length_append,o4,q4,Nat.add_mul]
   have wM:∀ v ∈ dG++news,v.oneCell'=true:=fun v hv=>(List.mem_append.1 hv).elim (o5 v) (q5 v)
   have Fx:∀ j,j < (n + Xm vx) * es2→VR g (Qo c g s) w ((Xz s es2 (.sl es2 b 0 n cc)++Xz s es2 vx).getD j .any) ((dG++news).getD j undef):=fun j hj=>by
    by_cases mo:j < n * es2
    ·have:=o6 j mo
     simp only[List.getD,List.getElem?_append_left (show j < (Xz s es2 (.sl es2 b 0 n cc)).length by omega),List.getElem?_append_left (show j < dG.length by omega)]at this ⊢
     exact this
    ·have:=q6 (j - n * es2) (by rw[Nat.add_mul]at hj;omega)
     simp only[List.getD,List.getElem?_append_right (show (Xz s es2 (.sl es2 b 0 n cc)).length≤j by omega),List.getElem?_append_right (show dG.length≤j by omega),o3,o4]at this ⊢
     exact this
   by_cases dX:n + Xm vx≤cap
   ·-- in place
    have dh:=hR.h b
    rw[h1]at dh
    have pB:fz=(0,0)∨cur.size≤fz.1:=by
     cases hh:s.H b with
     | cells cs=>rw[hh]at dh;cases dh with|cells bL _ _ _ hf=>rw[h5]at bL;cases bL;exact hf
     | aC kvs dn=>rw[hh]at dh;cases dh with|aC bL=>rw[h5]at bL;cases bL
     | bm kvs bs ck=>rw[hh]at dh;cases dh with|bm bL=>rw[h5]at bL;cases bL
     | iter b0 ck seen=>rw[hh]at dh;cases dh with|iter bL=>rw[h5]at bL;cases bL
     | db ls=>rw[hh]at dh;cases dh with|db _ h'=>cases h' with|cells bL _ _ _ hf=>rw[h5]at bL;cases bL;exact hf
     | free=>rw[hh]at aO;exact aO.elim
     | dead=>rw[hh]at aO;exact aO.elim
    have hmul:(n + Xm vx) * es2≤cap * es2:=Nat.mul_le_mul_right _ dX
    have ic:n * i.size + news.length≤cur.size:=by rw[cR,q3,← Nat.add_mul];omega
    have hr:=QS (ty:=ty) (P:=P) ht hu hi k n cap ux (Xm vx) news cur e' fz w q1 h5 pB (by rw[cR];exact q2) q5 dX ic
    rw[cR]at hr
    have holds:dG=cur.toList.take (n * es2):=by
     have a1:=o2 w rfl
     have a2:=run_firstCells_some (P:=P) w es2 n ⟨k,0,none⟩ n cap (cur.toList.take (n * es2)) (by simp;have:=Nat.mul_le_mul_right es2 (Nat.le_trans h2 h3);omega) (by have:=JO h5 (o:=0) (n:=n * es2) (by have:=Nat.mul_le_mul_right es2 (Nat.le_trans h2 h3);omega) w rfl;simpa using this)
     rw[a1]at a2
     simpa using a2
    have cE:(cur.toList.take (n * es2)++news++cur.toList.drop (n * es2 + news.length)).toArray.size=cur.size:=by
     have:n * es2≤cur.size:=by have:=Nat.mul_le_mul_right es2 (Nat.le_trans h2 h3);omega
     rw[cR]at ic
     simp;omega
    have aW:∀ j,j < (n + Xm vx) * es2→(cur.toList.take (n * es2)++news++cur.toList.drop (n * es2 + news.length)).toArray.getD j undef=(dG++news).getD j undef:=fun j hj=>by
     rw[← holds]
     simp only[Array.getD_eq_getD_getElem?,List.getD,List.getElem?_toArray]
     rw[List.getElem?_append_left af]
    have hf:=QW (new:=(cur.toList.take (n * es2)++news++cur.toList.drop (n * es2 + news.length)).toArray) h5 cE
    have vr:Qo c g s k:=.inr ⟨b,aO,h1⟩
    have bw:=hR.setBlock (x:=.cells (Xz s es2 (.sl es2 b 0 n cc)++Xz s es2 vx)) h1 aO trivial hf (by
     refine .cells (cur:=(cur.toList.take (n * es2)++news++cur.toList.drop (n * es2 + news.length)).toArray) (e:=e') (fz:=fz) (setRow_heap w k cur _ e' fz h5) af (fun j hj=>?_) (fun j hj=>?_) (by rw[cE];exact pB)
     ·rw[aW j af]
      have cU:j < (dG++news).length:=by omega
      simp only[List.getD,List.getElem?_eq_getElem cU,Option.getD_some]
      exact wM _ (List.getElem_mem cU)
     ·rw[aW j af]
      exact (Fx j af).mono (hf.weak fun i hi=>hi ▸ vr) (fun _ _ h=>h) (fun _ _=>rfl))
    have QY:=bw.move (b:=b) (b':=nm) (by rw[FS.bc,if_pos rfl];trivial) (by rw[FS.bc,if_neg fun h=>bN h.symm,bq])
    have jf:((s.aK b (.cells (Xz s es2 (.sl es2 b 0 n cc)++Xz s es2 vx))).aK b .dead).aK nm ((s.aK b (.cells (Xz s es2 (.sl es2 b 0 n cc)++Xz s es2 vx))).H b)=(s.aK b .dead).aK nm (.cells (Xz s es2 (.sl es2 b 0 n cc)++Xz s es2 vx)):=by
     refine pG (fun _=>rfl) fun j=>?_
     simp only[FS.bc,if_pos]
     split
     ·rfl
     ·split<;>rfl
    rw[jf]at QY
    refine ⟨_,_,_,hr,QY,.sl (k:=k) (e:=e') (fz:=fz) (by rw[BX];exact h1) (Nat.le_refl _) dX h4 (setRow_heap w k cur _ e' fz h5) (by rw[cE];exact h6)⟩
   ·have iu:=Ig w (n + Xm vx) cap e
    have hr:=QQ (ty:=ty) (P:=P) ht hu hi hz (some ⟨k,0,none⟩) n cap ux (Xm vx) dG news w q1 (by rw[cR];exact q2) (by rw[cR];exact fun w' hw=>by simpa [Builtin.firstCells] using o2 w' hw) af (by simp only[maxLen]at pE;omega) (growslice_fits af qo)
    obtain ⟨g',e1,e2⟩:=QV (es:=es2) (N:=n + Xm vx) (cap:=grownCap w (n + Xm vx) cap e) (e:=e) (zs:=Builtin.zeroCells z.cells (grownCap w (n + Xm vx) cap e - (n + Xm vx))) nh jg hlen vq (by rw[size_zeroCells,kz]) iu (grownCap_le_maxLen w _ _ e pE) wM (fun j hj=>BY (Fx j hj))
    exact ⟨g',_,_,by rw[hr];simp,e1,e2⟩
  ·have vt:dG=[]:=List.eq_nil_of_length_eq_zero af
   have aX:Xz s es2 (.sl es2 b 0 0 0)=[]:=List.eq_nil_of_length_eq_zero af
   rw[aX]
   simp only[Nat.zero_add,List.nil_append]at pE qo ⊢
   exact QX nh jg ht hu hi hz cR kz ad q1 q2 q3 q4 q5 (fun j hj=>BY (q6 j hj)) pE qo
end
end Go.Proofs.YtogckmommodmhaaGreatDoor
