import Derived.Test.YtogckmommodmhaaGreatDoorZr2
import Derived.DeepKeys
import Derived.Laws.StructEq
import Derived.Great.BuildSlice
import Derived.Laws.IdiomStrings
import Derived.KernelRfl
import Derived.Test.YtogckmommodmhaaGreatDoorChecked
import Derived.LaidMore
import Derived.Stop.Joined
namespace Go.Proofs.YtogckmommodmhaaGreatDoor
open Go.RowKit
set_option linter.all false
set_option linter.unusedSimpArgs false
set_option maxRecDepth 100000
inductive TC where
 | skip
 | reg (l:List TOp)
 | dreg (l:List TOp) (anc:List Nat)
 | seq (a b:TC)
 | cond (x:TV) (a b:TC)
 | block (i:Nat) (b:TC)
 | loop (b:TC)
 | exit (i:Nat)
 | ret
def Zz (P:Program) (N:Nat):Code→Option TC
 | .skip=>some .skip
 | .region _ ops false=>(Qe9 P N ops ops.toList).map .reg
 | .region _ ops true=>if Xel ops=true then (Qe9 P N ops ops.toList).map fun l=>.dreg l (Qk8 ops.toList []) else none
 | .seq a b=>match Zz P N a,Zz P N b with
  | some x,some y=>some (.seq x y)
  | _,_=>none
 | .cond c a b=>match Zz P N a,Zz P N b with
  | some x,some y=>some (.cond (tvO c) x y)
  | _,_=>none
 | .block i b=>(Zz P N b).map (.block i)
 | .loop b=>(Zz P N b).map .loop
 | .exit i=>some (.exit i)
 | .ret=>some .ret
 | _=>none
inductive EX where
 | normal
 | exit (i:Nat)
 | ret
def Xf5 (c:Cx) (Q:EX→St→Prop):Exit→Act→World→Prop
 | .normal,a,w=>∃ g s,R c g s.fs a w∧Q .normal s
 | .exit i,a,w=>∃ g s,R c g s.fs a w∧Q (.exit i) s
 | .ret,a,w=>∃ g s,R c g s.fs a w∧Q .ret s
 | _,_,_=>False
def AW (P:Program) (c:Cx) (code:Code) (Q:EX→St→Prop) (s:St):Prop:=∀ g a w,R c g s.fs a w→code.wp P (Xf5 c Q) a w
def Xys (k:(EX→St→Prop)→St→Prop) (Q:EX→St→Prop):EX→St→Prop
 | .normal,s=>k Q s
 | e,s=>Q e s
def Qgz (i:Nat) (Q:EX→St→Prop):EX→St→Prop
 | .exit j,s=>if j=i then Q .normal s else Q (.exit j) s
 | e,s=>Q e s
def Qc3 (P:Program) (c:Cx) (b:TC) (Q:EX→St→Prop) (s:St):Prop:=∀ code,Zz P c.N code=some b→AW P c (.loop code) Q s
def xw (P:Program) (c:Cx):TC→(EX→St→Prop)→St→Prop
 | .skip,Q,s=>Q .normal s
 | .reg l,Q,s=>XP P c l (Q .normal) s
 | .dreg l anc,Q,s=>XD P c anc l [] (Q .normal) s
 | .seq a b,Q,s=>xw P c a (Xys (xw P c b) Q) s
 | .cond x a b,Q,s=>isB (evT c.gl s.fs x)∧(asB (evT c.gl s.fs x)=true→xw P c a Q s)∧(asB (evT c.gl s.fs x)=false→xw P c b Q s)
 | .block i b,Q,s=>xw P c b (Qgz i Q) s
 | .loop b,Q,s=>Qc3 P c b Q s
 | .exit i,Q,s=>Q (.exit i) s
 | .ret,Q,s=>Q .ret s
def Xc1 (P:Program) (c:Cx) (b:TC) (Q:EX→St→Prop):EX→St→Prop:=Xys (xw P c b) Q
section
variable {P:Program} {c:Cx} {Q:EX→St→Prop} {s:St}
theorem Xvu:xw P c .skip Q s=Q .normal s:=rfl
theorem Xy5 (l:List TOp):xw P c (.reg l) Q s=XP P c l (Q .normal) s:=rfl
theorem Xxg (l:List TOp) (anc:List Nat):xw P c (.dreg l anc) Q s=XD P c anc l [] (Q .normal) s:=rfl
theorem Xzi (a b:TC):xw P c (.seq a b) Q s=xw P c a (Xc1 P c b Q) s:=rfl
theorem Xuq (x:TV) (a b:TC):xw P c (.cond x a b) Q s=(isB (evT c.gl s.fs x)∧(asB (evT c.gl s.fs x)=true→xw P c a Q s)∧(asB (evT c.gl s.fs x)=false→xw P c b Q s)):=rfl
theorem Xr7 (i:Nat) (b:TC):xw P c (.block i b) Q s=xw P c b (Qgz i Q) s:=rfl
theorem Xx4 (b:TC):xw P c (.loop b) Q s=Qc3 P c b Q s:=rfl
theorem Xtx (i:Nat):xw P c (.exit i) Q s=Q (.exit i) s:=rfl
theorem Xym:xw P c .ret Q s=Q .ret s:=rfl
theorem Qx8 (b:TC):Xc1 P c b Q .normal s=xw P c b Q s:=rfl
theorem Xk3 (b:TC) (i:Nat):Xc1 P c b Q (.exit i) s=Q (.exit i) s:=rfl
theorem Xpj (b:TC):Xc1 P c b Q .ret s=Q .ret s:=rfl
end
section
variable {P:Program} {c:Cx}
theorem Qxt {ops:Array Oper} {id:Nat} {l:List TOp} {Q:EX→St→Prop} {s:St} (hm:P.follows .mixedOrders=true) (hb:Xel ops=true) (he:Qe9 P c.N ops ops.toList=some l)
  (h:XD P c (Qk8 ops.toList []) l [] (Q .normal) s):AW P c (.region id ops true) Q s:=by
 intro g a w hR
 obtain ⟨S,F,sn,h1,h2,h3,h4,h5⟩:=Qtx ops.toList l [] s he h
 have hn:ops.toList.length=ops.size:=by simp
 rw[hn]at h3 h5
 simp only[List.reverse_nil,List.nil_append]at h5
 have hc:Ch ops.size S F (fun j=>(List.range ops.size).filter fun i=>((Qk8 ops.toList []).getD j 0).testBit i):=by
  refine ⟨fun j hj=>?_,fun j hj=>?_,fun i j hij hj hcl=>?_⟩
  ·exact (h2 j ops[j] (by simp[hj])).outT
  ·exact (h2 j ops[j] (by simp[hj])).outH
  ·have:=Qpx _ [] h5 j (by simpa using hj) i (by simp;omega) (by simpa using hij) (by simpa using Xsp hcl)
   simp only[List.mem_filter,List.mem_range]
   exact ⟨by omega,by simpa using this⟩
 refine wp_region_any hm ?_
 have inv0:HeadInv .any ops ops.size (Array.replicate ops.size false) :=
  ⟨by simp,fun j oj _ hl=>(by rw[getD_replicate_false]at hl;cases hl),fun t ht ht'=>by omega⟩
 have hR':R c g s.fs a { w with drawn:=w.drawn + 1 }:=hR.grow (Fr.drew w _)
 refine Xjm (S:=S) (F:=F) rfl hb hc (fun L' hcl' j hj=>?_) (fun j o ho=>h2 j o (by simpa using ho)) (fun g' a' w' hR''=>⟨g',sn,by rw[h3];exact hR'',h4⟩) _ _ g a _ inv0 ?_ ?_
 ·intro i hi
  exact Qsj (ops:=ops) (L:=fun k=>L' k=true) hcl' ops.toList [] (fun i=>by simp) (fun j hj=>by simp at hj) j hj i (List.mem_filter.1 hi).2
 ·rw[Qzg _ fun j _=>getD_replicate_false _ _,h1];exact hR'
 ·unfold opn
  rw[List.filter_eq_self.2 (fun j hj=>by
   have hj':=List.mem_range.1 hj
   rw[getD_in (by simp;omega) (getD_replicate_false _ _)];rfl)]
  simp
end
section
variable {P:Program} {c:Cx}
theorem Qcn (hm:P.follows .mixedOrders=true):∀ (code:Code) (t:TC) (Q:EX→St→Prop) (s:St),Zz P c.N code=some t→xw P c t Q s→AW P c code Q s:=by
 intro code
 induction code with
 | skip =>
  intro t Q s he h g a w hR
  simp[Zz]at he;subst he
  exact wp_skip ⟨g,s,hR,h⟩
 | region id ops d =>
  intro t Q s he h
  cases d with
  | false =>
   simp only[Zz,Option.map_eq_some_iff]at he
   obtain ⟨l,hl,rfl⟩:=he
   intro g a w hR
   exact wp_region_list (Qm5 (K:=Q .normal) (fun s g a w hs hR=>⟨g,s,hR,hs⟩) ops.toList l s hl h g a w hR)
  | true =>
   simp only[Zz]at he
   split at he
   ·rename_i hb
    simp only[Option.map_eq_some_iff]at he
    obtain ⟨l,hl,rfl⟩:=he
    exact Qxt hm hb hl h
   ·cases he
 | seq x y ihx ihy =>
  intro t Q s he h g a w hR
  simp only[Zz]at he
  split at he
  ·rename_i tx ty hx hy
   simp at he;subst he
   refine wp_seq (wp_mono (ihx tx _ s hx h g a w hR) fun e a' w' hq=>?_)
   cases e with
   | normal =>
    obtain ⟨g',s',hR',hq'⟩:=hq
    exact ihy ty Q s' hy hq' g' a' w' hR'
   | exit i=>exact hq
   | ret=>exact hq
   | goto l=>exact hq
   | panic ch=>exact hq
   | outgrown=>exact hq
  ·cases he
 | cond x a b iha ihb =>
  intro t Q s he h g act w hR
  simp only[Zz]at he
  split at he
  ·rename_i ta tb ha hb
   simp at he;subst he
   obtain ⟨h1,h2,h3⟩:=h
   have hv:=(hR.ev x).isB h1
   refine wp_cond_split hv (fun ht=>?_) fun hf=>?_
   ·exact iha ta Q s ha (h2 ht) g act w hR
   ·exact ihb tb Q s hb (h3 hf) g act w hR
  ·cases he
 | block i b ih =>
  intro t Q s he h g a w hR
  simp only[Zz,Option.map_eq_some_iff]at he
  obtain ⟨tb,hb,rfl⟩:=he
  refine wp_block (wp_mono (ih tb _ s hb h g a w hR) fun e a' w' hq=>?_)
  cases e with
  | exit j =>
   obtain ⟨g',s',hR',hq'⟩:=hq
   simp only[Qgz]at hq'
   simp only[Exit.inBlock]
   split
   ·rename_i e;rw[if_pos e]at hq';exact ⟨g',s',hR',hq'⟩
   ·rename_i e;rw[if_neg e]at hq';exact ⟨g',s',hR',hq'⟩
  | normal=>exact hq
  | ret=>exact hq
  | goto l=>exact hq
  | panic ch=>exact hq
  | outgrown=>exact hq
 | loop b ih =>
  intro t Q s he h
  simp only[Zz,Option.map_eq_some_iff]at he
  obtain ⟨tb,hb,rfl⟩:=he
  exact h b hb
 | exit i =>
  intro t Q s he h g a w hR
  simp[Zz]at he;subst he
  exact wp_exit ⟨g,s,hR,h⟩
 | ret =>
  intro t Q s he h g a w hR
  simp[Zz]at he;subst he
  exact wp_ret ⟨g,s,hR,h⟩
 | rangeFunc f ps a b iha ihb=>intro t Q s he;simp[Zz]at he
 | scope b ih=>intro t Q s he;simp[Zz]at he
 | label l=>intro t Q s he;simp[Zz]at he
 | goto l=>intro t Q s he;simp[Zz]at he
 | refuse why=>intro t Q s he;simp[Zz]at he
end
mutual
def Qe (n:Nat):AV→Prop
 | .cnd _ v=>Qe n v
 | .agg cs=>nmAll n cs
 | .tup cs=>nmAll n cs
 | .xp cs _=>nmAll n cs
 | .isl _ cs=>nmAll n cs
 | .cl _ cs=>nmAll n cs
 | .ptr b _=>b < n
 | .sl _ b _ _ _=>b < n
 | .mp b=>b < n
 | _=>True
def nmAll (n:Nat):List AV→Prop
 | []=>True
 | x::xs=>Qe n x∧nmAll n xs
end
mutual
def ren (ρ:Nat→Nat):AV→AV
 | .cnd b v=>.cnd b (ren ρ v)
 | .agg cs=>.agg (rens ρ cs)
 | .tup cs=>.tup (rens ρ cs)
 | .xp cs o=>.xp (rens ρ cs) o
 | .isl n cs=>.isl n (rens ρ cs)
 | .cl f cs=>.cl f (rens ρ cs)
 | .ptr b o=>.ptr (ρ b) o
 | .sl es b o n c=>.sl es (ρ b) o n c
 | .mp b=>.mp (ρ b)
 | .any=>.any
 | .int k n=>.int k n
 | .bool b=>.bool b
 | .str l=>.str l
 | .nils=>.nils
 | .lit v=>.lit v
def rens (ρ:Nat→Nat):List AV→List AV
 | []=>[]
 | x::xs=>ren ρ x::rens ρ xs
end
theorem Xi {n:Nat}:∀ {cs:List AV},nmAll n cs ↔ ∀ x ∈ cs,Qe n x
 | []=>by simp[nmAll]
 | x::xs=>by simp[nmAll,Xi (cs:=xs)]
theorem Yf (ρ:Nat→Nat):∀ cs:List AV,rens ρ cs=cs.map (ren ρ)
 | []=>by simp[rens]
 | x::xs=>by simp[rens,Yf ρ xs]
theorem Yg (ρ:Nat→Nat) (cs:List AV):(rens ρ cs).length=cs.length:=by rw[Yf];simp
theorem Ka (ρ:Nat→Nat) (cs:List AV) (j:Nat):(rens ρ cs).getD j .any=ren ρ (cs.getD j .any):=by
 rw[Yf]
 simp only[List.getD,List.getElem?_map]
 cases cs[j]?<;>simp[ren]
theorem Zn {n:Nat} {cs:List AV} (h:nmAll n cs) (j:Nat):Qe n (cs.getD j .any):=by
 by_cases hj:j < cs.length
 ·rw[Qhd hj];exact Xi.1 h _ (List.getElem_mem _)
 ·have:cs.getD j .any=.any:=by simp[List.getD,Nat.le_of_not_lt hj]
  rw[this];simp[Qe]
section
variable {P:Program} {W:Nat→Prop} {w:World} {g g':Nat→GM} {n:Nat} {ρ:Nat→Nat}
theorem VR.ren (hg:∀ b,b < n→g (ρ b)=g' b) {v:AV} {u:Value} (h:VR g' W w v u):Qe n v→VR g W w (ren ρ v) u:=by
 induction h with
 | any v=>intro _;simp only[Proofs.YtogckmommodmhaaGreatDoor.ren];exact .any _
 | cnd h h0 ih=>intro hn;simp only[Proofs.YtogckmommodmhaaGreatDoor.ren];simp only[Qe]at hn;exact .cnd (fun hb=>ih hb hn) h0
 | int k n=>intro _;simp only[Proofs.YtogckmommodmhaaGreatDoor.ren];exact .int _ _
 | bool b=>intro _;simp only[Proofs.YtogckmommodmhaaGreatDoor.ren];exact .bool _
 | str l=>intro _;simp only[Proofs.YtogckmommodmhaaGreatDoor.ren];exact .str _
 | agg hs h1 h ih =>
  intro hn;simp only[Proofs.YtogckmommodmhaaGreatDoor.ren];simp only[Qe]at hn
  exact .agg (by rw[Yg];exact hs) (fun j hj=>h1 j (by rwa [Yg]at hj)) fun j hj=>by rw[Ka];exact ih j (by rwa [Yg]at hj) (Zn hn j)
 | tup hs h ih =>
  intro hn;simp only[Proofs.YtogckmommodmhaaGreatDoor.ren];simp only[Qe]at hn
  exact .tup (by rw[Yg];exact hs) fun j hj=>by rw[Ka];exact ih j (by rwa [Yg]at hj) (Zn hn j)
 | ptr e=>intro hn;simp only[Proofs.YtogckmommodmhaaGreatDoor.ren];simp only[Qe]at hn;exact .ptr (by rw[hg _ hn];exact e)
 | xp hc h ih =>
  intro hn;simp only[Proofs.YtogckmommodmhaaGreatDoor.ren];simp only[Qe]at hn
  exact .xp (fun j hj=>hc j (by rwa [Yg]at hj)) fun j hj=>by rw[Ka];exact ih j (by rwa [Yg]at hj) (Zn hn j)
 | sl e a b c d f=>intro hn;simp only[Proofs.YtogckmommodmhaaGreatDoor.ren];simp only[Qe]at hn;exact .sl (by rw[hg _ hn];exact e) a b c d f
 | slp e hc=>intro hn;simp only[Proofs.YtogckmommodmhaaGreatDoor.ren];simp only[Qe]at hn;exact .slp (by rw[hg _ hn];exact e) hc
 | isl a b hc h ih =>
  intro hn;simp only[Proofs.YtogckmommodmhaaGreatDoor.ren];simp only[Qe]at hn
  exact .isl a b (fun j hj=>hc j (by rwa [Yg]at hj)) fun j hj=>by rw[Ka];exact ih j (by rwa [Yg]at hj) (Zn hn j)
 | nils a=>intro _;simp only[Proofs.YtogckmommodmhaaGreatDoor.ren];exact .nils _
 | cl hs h ih =>
  intro hn;simp only[Proofs.YtogckmommodmhaaGreatDoor.ren];simp only[Qe]at hn
  exact .cl (by rw[Yg];exact hs) fun j hj=>by rw[Ka];exact ih j (by rwa [Yg]at hj) (Zn hn j)
 | mp e=>intro hn;simp only[Proofs.YtogckmommodmhaaGreatDoor.ren];simp only[Qe]at hn;exact .mp (by rw[hg _ hn];exact e)
 | lit v=>intro _;simp only[Proofs.YtogckmommodmhaaGreatDoor.ren];exact .lit _
theorem VR.unren (hg:∀ b,b < n→g (ρ b)≠.un→g (ρ b)=g' b) {x:AV} {u:Value} (h:VR g W w x u):∀ v,x=Proofs.YtogckmommodmhaaGreatDoor.ren ρ v→Qe n v→VR g' W w v u:=by
 induction h with
 | any=>intro v e _;cases v<;>simp[Proofs.YtogckmommodmhaaGreatDoor.ren]at e;exact .any _
 | cnd h h0 ih=>intro v e hn;cases v<;>simp[Proofs.YtogckmommodmhaaGreatDoor.ren]at e;obtain ⟨rfl,rfl⟩:=e;exact .cnd (fun hb=>ih hb _ rfl (by simpa [Qe] using hn)) h0
 | int k n=>intro v e _;cases v<;>simp[Proofs.YtogckmommodmhaaGreatDoor.ren]at e;obtain ⟨rfl,rfl⟩:=e;exact .int _ _
 | bool b=>intro v e _;cases v<;>simp[Proofs.YtogckmommodmhaaGreatDoor.ren]at e;subst e;exact .bool _
 | str l=>intro v e _;cases v<;>simp[Proofs.YtogckmommodmhaaGreatDoor.ren]at e;subst e;exact .str _
 | agg hs h1 h ih =>
  intro v e hn;cases v<;>simp[Proofs.YtogckmommodmhaaGreatDoor.ren]at e;subst e;simp only[Qe]at hn
  rw[Yg]at hs h1 ih
  exact .agg hs h1 fun j hj=>ih j hj _ (Ka _ _ _) (Zn hn j)
 | tup hs h ih =>
  intro v e hn;cases v<;>simp[Proofs.YtogckmommodmhaaGreatDoor.ren]at e;subst e;simp only[Qe]at hn
  rw[Yg]at hs ih
  exact .tup hs fun j hj=>ih j hj _ (Ka _ _ _) (Zn hn j)
 | ptr e0=>intro v e hn;cases v<;>simp[Proofs.YtogckmommodmhaaGreatDoor.ren]at e;obtain ⟨rfl,rfl⟩:=e;simp only[Qe]at hn;exact .ptr (by rw[← hg _ hn (by rw[e0];intro x;cases x)];exact e0)
 | xp hc h ih =>
  intro v e hn;cases v<;>simp[Proofs.YtogckmommodmhaaGreatDoor.ren]at e;obtain ⟨rfl,rfl⟩:=e;simp only[Qe]at hn
  rw[Yg]at hc ih
  exact .xp hc fun j hj=>ih j hj _ (Ka _ _ _) (Zn hn j)
 | sl e0 a b c d f=>intro v e hn;cases v<;>simp[Proofs.YtogckmommodmhaaGreatDoor.ren]at e;obtain ⟨rfl,rfl,rfl,rfl,rfl⟩:=e;simp only[Qe]at hn;exact .sl (by rw[← hg _ hn (by rw[e0];intro x;cases x)];exact e0) a b c d f
 | slp e0 hc=>intro v e hn;cases v<;>simp[Proofs.YtogckmommodmhaaGreatDoor.ren]at e;obtain ⟨rfl,rfl,rfl,rfl,rfl⟩:=e;simp only[Qe]at hn;exact .slp (by rw[← hg _ hn (by rw[e0];intro x;cases x)];exact e0) hc
 | isl a b hc h ih =>
  intro v e hn;cases v<;>simp[Proofs.YtogckmommodmhaaGreatDoor.ren]at e;obtain ⟨rfl,rfl⟩:=e;simp only[Qe]at hn
  rw[Yg]at hc ih
  exact .isl a b hc fun j hj=>ih j hj _ (Ka _ _ _) (Zn hn j)
 | nils a=>intro v e _;cases v<;>simp[Proofs.YtogckmommodmhaaGreatDoor.ren]at e;exact .nils _
 | cl hs h ih =>
  intro v e hn;cases v<;>simp[Proofs.YtogckmommodmhaaGreatDoor.ren]at e;obtain ⟨rfl,rfl⟩:=e;simp only[Qe]at hn
  rw[Yg]at hs ih
  exact .cl hs fun j hj=>ih j hj _ (Ka _ _ _) (Zn hn j)
 | mp e0=>intro v e hn;cases v<;>simp[Proofs.YtogckmommodmhaaGreatDoor.ren]at e;subst e;simp only[Qe]at hn;exact .mp (by rw[← hg _ hn (by rw[e0];intro x;cases x)];exact e0)
 | lit=>intro v e _;cases v<;>simp[Proofs.YtogckmommodmhaaGreatDoor.ren]at e;subst e;exact .lit _
theorem Qc0 (ρ:Nat→Nat) (h:∀ b,ρ b=b):∀ v:AV,Proofs.YtogckmommodmhaaGreatDoor.ren ρ v=v:=by
 have:ρ=id:=funext h
 subst this
 intro v
 exact AV.rec (motive_1:=fun v=>Proofs.YtogckmommodmhaaGreatDoor.ren id v=v) (motive_2:=fun l=>rens id l=l) (by simp[Proofs.YtogckmommodmhaaGreatDoor.ren]) (fun b v h=>by simp[Proofs.YtogckmommodmhaaGreatDoor.ren,h]) (fun _ _=>by simp[Proofs.YtogckmommodmhaaGreatDoor.ren]) (fun _=>by simp[Proofs.YtogckmommodmhaaGreatDoor.ren]) (fun _=>by simp[Proofs.YtogckmommodmhaaGreatDoor.ren])
  (fun cs h=>by simp[Proofs.YtogckmommodmhaaGreatDoor.ren,h]) (fun cs h=>by simp[Proofs.YtogckmommodmhaaGreatDoor.ren,h]) (fun _ _=>by simp[Proofs.YtogckmommodmhaaGreatDoor.ren]) (fun cs _ h=>by simp[Proofs.YtogckmommodmhaaGreatDoor.ren,h]) (fun _ _ _ _ _=>by simp[Proofs.YtogckmommodmhaaGreatDoor.ren]) (fun _ cs h=>by simp[Proofs.YtogckmommodmhaaGreatDoor.ren,h]) (by simp[Proofs.YtogckmommodmhaaGreatDoor.ren])
  (fun _ cs h=>by simp[Proofs.YtogckmommodmhaaGreatDoor.ren,h]) (fun _=>by simp[Proofs.YtogckmommodmhaaGreatDoor.ren]) (fun _=>by simp[Proofs.YtogckmommodmhaaGreatDoor.ren]) (by simp[rens]) (fun x xs h1 h2=>by simp[rens,h1,h2]) v
theorem VR.nm {v:AV} {u:Value} (h:VR g W w v u) (hn:Qe n v) (hg:∀ b,b < n→g b=g' b):VR g' W w v u :=
 h.unren (ρ:=id) (n:=n) (g':=g') (fun b hb _=>hg b hb) v (Qc0 _ (fun _=>rfl) v).symm hn
end
def rl:List (Nat × Nat)→Nat→Nat
 | [],b=>b
 | (i,j)::r,b=>bif i == b then j else rl r b
def Xf (ρ:Nat→Nat):Bk→Bk
 | .cells cs=>.cells (rens ρ cs)
 | .mapb kvs dn=>.mapb (kvs.map fun p=>(ren ρ p.1,ren ρ p.2)) dn
 | .mapx kvs bs ck=>.mapx (kvs.map fun p=>(ren ρ p.1,ren ρ p.2)) bs ck
 | .iter b ck seen=>.iter (ρ b) ck seen
 | .bag ls=>.bag ls
 | x=>x
def nmB (n:Nat):Bk→Prop
 | .cells cs=>nmAll n cs
 | .mapb kvs _=>∀ p ∈ kvs,Qe n p.1∧Qe n p.2
 | .mapx kvs _ _=>∀ p ∈ kvs,Qe n p.1∧Qe n p.2
 | .iter b _ _=>b < n
 | .bag ls=>∀ l ∈ ls,nmAll 0 l
 | _=>False
def Qw (ρ:Nat→Nat) (n:Nat) (st:List (Nat × AV)):List (Nat × AV)→Prop
 | []=>True
 | (i,v)::r=>(Qe n v∧look st i=ren ρ v)∧Qw ρ n st r
def Qdh (ρ:Nat→Nat) (b:Nat):List (Nat × Bk)→Prop
 | []=>True
 | (b',_)::r=>ρ b'≠ρ b∧Qdh ρ b r
def Qdj (ρ:Nat→Nat) (n:Nat) (s:St):List (Nat × Bk)→Prop
 | []=>True
 | (b,x)::r=>(b < n∧nmB n x∧Qb s.h s.n (ρ b)=Xf ρ x∧Qdh ρ b r)∧Qdj ρ n s r
def Sub (ρ:Nat→Nat) (s s':St):Prop:=Qw ρ s'.n s.t s'.t∧Qdj ρ s'.n s s'.h
theorem Qn6:∀ (l:List (Nat × AV)) (i:Nat),look l i=.any∨∃ p ∈ l,p.1=i∧look l i=p.2
 | [],_=>.inl rfl
 | (j,v)::l,i=>by
  rw[Zt]
  by_cases h:j=i
  ·rw[if_pos h];exact .inr ⟨(j,v),by simp,h,rfl⟩
  ·rw[if_neg h]
   rcases Qn6 l i with h'|⟨p,h1,h2,h3⟩
   ·exact .inl h'
   ·exact .inr ⟨p,by simp[h1],h2,h3⟩
theorem Zs:∀ (l:List (Nat × Bk)) (n i:Nat),(Qb l n i=if i < n then .dead else .free)∨∃ p ∈ l,p.1=i∧Qb l n i=p.2
 | [],n,i=>by
  exact .inl rfl
 | (j,v)::l,n,i=>by
  rw[Qc]
  by_cases h:j=i
  ·rw[if_pos h];exact .inr ⟨(j,v),by simp,h,rfl⟩
  ·rw[if_neg h]
   rcases Zs l n i with h'|⟨p,h1,h2,h3⟩
   ·exact .inl h'
   ·exact .inr ⟨p,by simp[h1],h2,h3⟩
theorem Qv5 {ρ:Nat→Nat} {n:Nat} {st:List (Nat × AV)}:∀ {l:List (Nat × AV)},Qw ρ n st l→∀ p ∈ l,Qe n p.2∧look st p.1=ren ρ p.2
 | [],_,p,hp=>by cases hp
 | (i,v)::r,h,p,hp=>by
  rcases List.mem_cons.1 hp with rfl|hp
  ·exact h.1
  ·exact Qv5 h.2 p hp
theorem Qht {ρ:Nat→Nat} {b:Nat}:∀ {l:List (Nat × Bk)},Qdh ρ b l→∀ p ∈ l,ρ p.1≠ρ b
 | [],_,p,hp=>by cases hp
 | (i,v)::r,h,p,hp=>by
  rcases List.mem_cons.1 hp with rfl|hp
  ·exact h.1
  ·exact Qht h.2 p hp
theorem Qm9 {ρ:Nat→Nat} {n:Nat} {s:St}:∀ {l:List (Nat × Bk)},Qdj ρ n s l→∀ p ∈ l,p.1 < n∧nmB n p.2∧Qb s.h s.n (ρ p.1)=Xf ρ p.2
 | [],_,p,hp=>by cases hp
 | (i,v)::r,h,p,hp=>by
  rcases List.mem_cons.1 hp with rfl|hp
  ·exact ⟨h.1.1,h.1.2.1,h.1.2.2.1⟩
  ·exact Qm9 h.2 p hp
theorem Qv4 {ρ:Nat→Nat} {n:Nat} {s:St}:∀ {l:List (Nat × Bk)},Qdj ρ n s l→∀ p ∈ l,∀ q ∈ l,ρ p.1=ρ q.1→p.1=q.1
 | [],_,p,hp=>by cases hp
 | (i,v)::r,h,p,hp=>by
  intro q hq e
  rcases List.mem_cons.1 hp with rfl|hp<;>rcases List.mem_cons.1 hq with rfl|hq
  ·rfl
  ·exact absurd e.symm (Qht h.1.2.2.2 q hq)
  ·exact absurd e (Qht h.1.2.2.2 p hp)
  ·exact Qv4 h.2 p hp q hq e
theorem Xxe {ls ls':List (List AV)} (hp:ls'.Perm ls) (hn:∀ l ∈ ls,nmAll 0 l):nmAll 0 ls'.flatten:=Xi.2 fun x hx=>by
 obtain ⟨l,hl,hx⟩:=List.mem_flatten.1 hx
 exact Xi.1 (hn l (hp.mem_iff.1 hl)) x hx
theorem BR.bag_any {g g':Nat→GM} {W W':Nat→Prop} {w:World} {m:GM} {ls:List (List AV)} (h:BR g W w m (.bag ls)) (hn:∀ l ∈ ls,nmAll 0 l) (hW:∀ k,W' k→W k):BR g' W' w m (.bag ls):=by
 cases h with
 | bag hp h =>
  refine .bag hp ?_
  have hf:=Xxe hp hn
  generalize List.flatten _=cs at h hf
  cases h with
  | ph=>exact .ph
  | cells hb hl h1 hv hz=>exact .cells hb hl h1 (fun j hj=>((hv j hj).nm (Zn hf j) (fun b hb=>by omega)).mono (Fr.refl w W) (fun k _=>hW k) (fun _ _=>rfl)) hz
section
variable {g g':Nat→GM} {W W':Nat→Prop} {w:World}
theorem BR.unren {ρ:Nat→Nat} {n:Nat} (hg':∀ b,b < n→g (ρ b)≠.un→g (ρ b)=g' b) {mm:GM} {x:Bk} (h:BR g W w mm (Xf ρ x)) (hn:nmB n x) (hW:∀ k,W' k→W k):BR g' W' w mm x:=by
 have back:∀ {v u},Qe n v→VR g W w (ren ρ v) u→VR g' W' w v u:=fun hn h=>(h.unren hg' _ rfl hn).mono (Fr.refl w W) (fun k _=>hW k) (fun _ _=>rfl)
 cases x with
 | free=>exact hn.elim
 | dead=>exact hn.elim
 | cells cs =>
  simp only[Xf]at h
  simp only[nmB]at hn
  generalize hcs:rens ρ cs=cs' at h
  cases h with
  | ph =>
   have:cs=[]:=by cases cs<;>simp_all [rens]
   subst this;exact .ph
  | cells hb hl h1 hv hz =>
   subst hcs
   rw[Yg]at hl h1 hv
   exact .cells hb hl h1 (fun j hj=>back (Zn hn j) (by have:=hv j hj;rwa [Ka]at this)) hz
 | mapb kvs dn =>
  simp only[Xf]at h
  simp only[nmB]at hn
  generalize hcs:(kvs.map fun p=>(ren ρ p.1,ren ρ p.2))=kvs' at h
  cases h with
  | mapb hb hs hkk hv hc ha hd =>
   subst hcs
   rw[List.length_map]at hs hkk hv
   have hget:∀ j,j < kvs.length→(kvs.map fun p=>(ren ρ p.1,ren ρ p.2)).getD j (.any,.any)=(ren ρ (kvs.getD j (.any,.any)).1,ren ρ (kvs.getD j (.any,.any)).2):=fun j hj=>by simp[List.getD,hj]
   have hmem:∀ j,j < kvs.length→kvs.getD j (.any,.any) ∈ kvs:=fun j hj=>by simp[List.getD,hj]
   exact .mapb hb hs (fun j hj=>back (hn _ (hmem j hj)).1 (by have:=hkk j hj;rwa [hget j hj]at this)) (fun j hj=>back (hn _ (hmem j hj)).2 (by have:=hv j hj;rwa [hget j hj]at this)) hc ha hd
 | mapx kvs bs ck =>
  simp only[Xf]at h
  simp only[nmB]at hn
  generalize hcs:(kvs.map fun p=>(ren ρ p.1,ren ρ p.2))=kvs' at h
  cases h with
  | mapx hb hs hkk hv hc ha hd =>
   subst hcs
   rw[List.length_map]at hs hkk hv
   have hget:∀ j,j < kvs.length→(kvs.map fun p=>(ren ρ p.1,ren ρ p.2)).getD j (.any,.any)=(ren ρ (kvs.getD j (.any,.any)).1,ren ρ (kvs.getD j (.any,.any)).2):=fun j hj=>by simp[List.getD,hj]
   have hmem:∀ j,j < kvs.length→kvs.getD j (.any,.any) ∈ kvs:=fun j hj=>by simp[List.getD,hj]
   exact .mapx hb hs (fun j hj=>back (hn _ (hmem j hj)).1 (by have:=hkk j hj;rwa [hget j hj]at this)) (fun j hj=>back (hn _ (hmem j hj)).2 (by have:=hv j hj;rwa [hget j hj]at this)) hc ha hd
 | iter b0 ck seen =>
  simp only[Xf]at h
  simp only[nmB]at hn
  generalize hcs:ρ b0=b1 at h
  cases h with
  | iter hb hg0=>exact .iter hb (by rw[← hg' b0 hn (by rw[hcs,hg0];intro x;cases x),hcs];exact hg0)
 | bag ls=>exact BR.bag_any h hn hW
end
theorem Xe {n:Nat} {x:Bk} (h:nmB n x):x.live:=by cases x<;>simp_all [nmB,Bk.live]
theorem Qcs {ρ:Nat→Nat} {x:Bk}:(Xf ρ x).live ↔ x.live:=by cases x<;>simp[Xf,Bk.live]
section
variable {P:Program} {c:Cx}
open Classical in
theorem Sub.to {ρ:Nat→Nat} {s s':St} (hs:Sub ρ s s') {g:Nat→GM} {a:Act} {w:World} (hR:R c g s.fs a w) (hpin:∀ p ∈ c.gh,ρ p.1=p.1∧p.1 < s'.n):∃ g',R c g' s'.fs a w:=by
 obtain ⟨hT,hH⟩:=hs
 let g':Nat→GM:=fun b=>if b < s'.n then (if g (ρ b)=.un then .ph else g (ρ b)) else .un
 have hg':∀ b,b < s'.n→g (ρ b)≠.un→g (ρ b)=g' b:=fun b hb h=>by simp only[g',if_pos hb,if_neg h]
 have hge:∀ b,s'.n≤b→g' b=.un:=fun b hb=>by simp only[g'];rw[if_neg Zom]
 have hne:∀ b,b < s'.n→g' b≠.un:=fun b hb=>by
  simp only[g',if_pos hb]
  split
  ·intro h;cases h
  ·assumption
 -- what a live name of s' is
 have hlive:∀ b,(s'.fs.H b).live→∃ p ∈ s'.h,p.1=b∧s'.fs.H b=p.2:=fun b hl=>by
  rcases Zs s'.h s'.n b with h|h
  ·have:s'.fs.H b=if b < s'.n then .dead else .free:=h
   rw[this]at hl;split at hl<;>exact hl.elim
  ·exact h
 have hliveS:∀ b,(s'.fs.H b).live→b < s'.n∧(s.fs.H (ρ b)).live∧g' b=g (ρ b):=fun b hl=>by
  obtain ⟨p,hp,rfl,e⟩:=hlive b hl
  obtain ⟨h1,h2,h3⟩:=Qm9 hH p hp
  have hlv:(s.fs.H (ρ p.1)).live:=by
   show (Qb s.h s.n (ρ p.1)).live
   rw[h3,Qcs];exact Xe h2
  refine ⟨h1,hlv,(hg' _ h1 fun e=>?_).symm⟩
  have:=hR.h (ρ p.1)
  rw[e]at this
  generalize s.fs.H (ρ p.1)=x at this hlv
  exact this.ne_un hlv
 have hW:∀ k,Qn c g' s'.fs k→Qn c g s.fs k:=by
  rintro k (h|⟨b,h1,h2⟩)
  ·exact .inl h
  ·obtain ⟨_,h4,h5⟩:=hliveS b h1
   exact .inr ⟨ρ b,h4,by rw[← h5];exact h2⟩
 have hf:=Fr.refl w (Qn c g s.fs)
 have vmono:∀ {v u},VR g' (Qn c g s.fs) w v u→VR g' (Qn c g' s'.fs) w v u:=fun h=>h.mono hf (fun k _=>hW k) (fun _ _=>rfl)
 have back:∀ {v u},Qe s'.n v→VR g (Qn c g s.fs) w (ren ρ v) u→VR g' (Qn c g' s'.fs) w v u:=fun hn h=>vmono (h.unren hg' _ rfl hn)
 refine ⟨g',hR.size,hR.def_,fun i=>?_,fun i=>(hR.gl i).mono hf (fun k _=>hW k) (fun _ _=>rfl),fun b=>?_,fun b b' k h1 h2 e1 e2=>?_,fun b k h1 e1=>?_,hR.fr,hR.xs,fun p hp=>?_⟩
 ·rcases Qn6 s'.t i with h|⟨p,h1,rfl,h3⟩
  ·show VR g' _ w (look s'.t i) _
   rw[h];exact .any _
  ·show VR g' _ w (look s'.t p.1) _
   rw[h3]
   obtain ⟨q1,q2⟩:=Qv5 hT p h1
   have:=hR.t p.1
   have e:s.fs.T p.1=ren ρ p.2:=q2
   rw[e]at this
   exact back q1 this
 ·rcases Zs s'.h s'.n b with h|⟨p,h1,rfl,h3⟩
  ·show BR g' _ w _ (Qb s'.h s'.n b)
   rw[h]
   split
   ·rename_i hb;exact .dead (hne b hb)
   ·rename_i hb;rw[hge b Zom];exact .free
  ·show BR g' _ w _ (Qb s'.h s'.n p.1)
   rw[h3]
   obtain ⟨q1,q2,q3⟩:=Qm9 hH p h1
   have hl:(s'.fs.H p.1).live:=by
    show (Qb s'.h s'.n p.1).live
    rw[h3];exact Xe q2
   obtain ⟨_,_,e5⟩:=hliveS p.1 hl
   rw[e5]
   have hbr:=hR.h (ρ p.1)
   have e:s.fs.H (ρ p.1)=Xf ρ p.2:=q3
   rw[e]at hbr
   exact hbr.unren hg' q2 hW
 ·obtain ⟨p1,hp1,rfl,_⟩:=hlive b h1
  obtain ⟨p2,hp2,rfl,_⟩:=hlive b' h2
  obtain ⟨_,l1,d1⟩:=hliveS _ h1
  obtain ⟨_,l2,d2⟩:=hliveS _ h2
  exact Qv4 hH p1 hp1 p2 hp2 (hR.inj _ _ k l1 l2 (by rw[← d1];exact e1) (by rw[← d2];exact e2))
 ·obtain ⟨_,l1,d1⟩:=hliveS _ h1
  exact hR.old _ k l1 (by rw[← d1];exact e1)
 ·obtain ⟨q1,q2⟩:=hR.pin p hp
  obtain ⟨q3,q4⟩:=hpin p hp
  have:=hg' p.1 q4 (by rw[q3,q1];exact q2)
  rw[← this,q3];exact ⟨q1,q2⟩
def Qr7 {σ:Type} (I:σ→Prop) (emb:σ→St) (μ:σ→Nat) (x:σ) (Q:EX→St→Prop):EX→St→Prop
 | .normal,s=>∃ y,I y∧(∃ ρ,Sub (rl ρ) s (emb y))∧μ y < μ x
 | e,s=>Q e s
theorem Xl {σ:Type} (I:σ→Prop) (emb:σ→St) (μ:σ→Nat) {b:TC} {Q:EX→St→Prop} {s:St} (hm:P.follows .mixedOrders=true) (hgh:c.gh=[]) (h0:∃ y,I y∧∃ ρ,Sub (rl ρ) s (emb y))
  (hr:∀ x,I x→xw P c b (Qr7 I emb μ x Q) (emb x)):Qc3 P c b Q s:=by
 intro code he g a w hR
 obtain ⟨y0,hy0,ρ0,hs0⟩:=h0
 obtain ⟨g0,hR0⟩:=hs0.to hR (by rw[hgh];intro p hp;cases hp)
 have key:∀ n (x:σ),μ x=n→I x→∀ g a w,R c g (emb x).fs a w→∀ (fr:Frame) (k:List Item) (cs:List Frame),∃ e a' w',Xf5 c Q e a' w'∧Arrives P (lone (fr.at a (.code code::.inLoop code::k)) cs w) fr k cs e a' w':=by
  intro n
  induction n using Nat.strongRecOn with
  | _ n ih =>
   intro x hx hI g a w hR fr k cs
   have hb:=Qcn hm code b _ _ he (hr x hI) g a w hR
   obtain ⟨e,a1,w1,hq,harr⟩:=hb fr (.inLoop code::k) cs
   cases e with
   | normal =>
    obtain ⟨g1,s1,hR1,y,hIy,⟨ρ,hs⟩,hlt⟩:=hq
    obtain ⟨g2,hR2⟩:=hs.to hR1 (by rw[hgh];intro p hp;cases hp)
    obtain ⟨e2,a2,w2,hq2,harr2⟩:=ih (μ y) Zom y rfl hIy g2 a1 w1 hR2 fr k cs
    exact ⟨e2,a2,w2,hq2,.of_steps (Steps.trans harr (.one step_inLoop)) harr2⟩
   | exit i=>exact ⟨.exit i,a1,w1,hq,.pass (x:=.inLoop code) rfl (fun _ _=>.inl Zsi) harr⟩
   | ret=>exact ⟨.ret,a1,w1,hq,.pass (x:=.inLoop code) rfl (fun _ _=>.inl Zsi) harr⟩
   | goto l=>exact hq.elim
   | panic ch=>exact hq.elim
   | outgrown=>exact hq.elim
 intro fr k cs
 obtain ⟨e,a',w',hq,harr⟩:=key _ y0 rfl hy0 g0 a w hR0 fr k cs
 exact ⟨e,a',w',hq,.of_steps (.one step_loop) harr⟩
def Qfe (m:Nat) (ρ:List (Nat × Nat)) (n:Nat):Prop:=(∀ p ∈ ρ,m≤p.1)∧m≤n
theorem Xnx {m:Nat}:∀ {ρ:List (Nat × Nat)} (_:∀ p ∈ ρ,m≤p.1) {b:Nat},b < m→rl ρ b=b
 | [],_,_,_=>rfl
 | (i,j)::ρ,h,b,hb=>by
  have h1:m≤i:=h (i,j) Zsi
  have h2:=Xnx (ρ:=ρ) (fun p hp=>h p (by simp[hp])) hb
  have:(i == b)=false:=by simp;omega
  simp only[rl,this,cond_false,h2]
theorem Qoh {m:Nat} {ρ:List (Nat × Nat)} {n:Nat} (hgh:∀ p ∈ c.gh,p.1 < m) (h:Qfe m ρ n):∀ p ∈ c.gh,rl ρ p.1=p.1∧p.1 < n:=fun p hp=>⟨Xnx h.1 (hgh p hp),Nat.lt_of_lt_of_le (hgh p hp) h.2⟩
def Qns {σ:Type} (m:Nat) (I:σ→Prop) (emb:σ→St) (μ:σ→Nat) (x:σ) (Q:EX→St→Prop):EX→St→Prop
 | .normal,s=>∃ y,I y∧(∃ ρ,Qfe m ρ (emb y).n∧Sub (rl ρ) s (emb y))∧μ y < μ x
 | e,s=>Q e s
theorem Uq {σ:Type} (I:σ→Prop) (emb:σ→St) (μ:σ→Nat) {b:TC} {Q:EX→St→Prop} {s:St} (hm:P.follows .mixedOrders=true) (m:Nat) (hgh:∀ p ∈ c.gh,p.1 < m) (h0:∃ y,I y∧∃ ρ,Qfe m ρ (emb y).n∧Sub (rl ρ) s (emb y))
  (hr:∀ x,I x→xw P c b (Qns m I emb μ x Q) (emb x)):Qc3 P c b Q s:=by
 intro code he g a w hR
 obtain ⟨y0,hy0,ρ0,hp0,hs0⟩:=h0
 obtain ⟨g0,hR0⟩:=hs0.to hR (Qoh hgh hp0)
 have key:∀ n (x:σ),μ x=n→I x→∀ g a w,R c g (emb x).fs a w→∀ (fr:Frame) (k:List Item) (cs:List Frame),∃ e a' w',Xf5 c Q e a' w'∧Arrives P (lone (fr.at a (.code code::.inLoop code::k)) cs w) fr k cs e a' w':=by
  intro n
  induction n using Nat.strongRecOn with
  | _ n ih =>
   intro x hx hI g a w hR fr k cs
   have hb:=Qcn hm code b _ _ he (hr x hI) g a w hR
   obtain ⟨e,a1,w1,hq,harr⟩:=hb fr (.inLoop code::k) cs
   cases e with
   | normal =>
    obtain ⟨g1,s1,hR1,y,hIy,⟨ρ,hp,hs⟩,hlt⟩:=hq
    obtain ⟨g2,hR2⟩:=hs.to hR1 (Qoh hgh hp)
    obtain ⟨e2,a2,w2,hq2,harr2⟩:=ih (μ y) Zom y rfl hIy g2 a1 w1 hR2 fr k cs
    exact ⟨e2,a2,w2,hq2,.of_steps (Steps.trans harr (.one step_inLoop)) harr2⟩
   | exit i=>exact ⟨.exit i,a1,w1,hq,.pass (x:=.inLoop code) rfl (fun _ _=>.inl Zsi) harr⟩
   | ret=>exact ⟨.ret,a1,w1,hq,.pass (x:=.inLoop code) rfl (fun _ _=>.inl Zsi) harr⟩
   | goto l=>exact hq.elim
   | panic ch=>exact hq.elim
   | outgrown=>exact hq.elim
 intro fr k cs
 obtain ⟨e,a',w',hq,harr⟩:=key _ y0 rfl hy0 g0 a w hR0 fr k cs
 exact ⟨e,a',w',hq,.of_steps (.one step_loop) harr⟩
def Qdr (P : Program) (f : FuncId) : Prop := ∃ fn, P.funcs[f]? = some fn ∧ fn.body.isNone = false ∧ (fn.name == "runtime.NumGoroutine") = false
def PS (P:Program) (gl:Nat→AV) (f:FuncId) (args:List AV) (r:AV):Prop :=
 Qdr P f∧∀ (w:World) (vs:List Value) (X:Nat→Prop),(∀ k,X k→k < w.heap.size)→(∀ i,VR (fun _=>.un) X w (gl i) (.pointer (some ⟨i,0,none⟩)))→VRs (fun _=>.un) X w args vs →
  Calls P f vs.toArray w fun e w'=>∃ v,e=.returned v∧VR (fun _=>.un) X w' r v∧Fr w w' (fun _=>False)
inductive RS where
 | t (i:Nat)
 | cell (a:Nat) (ty:TY)
def Qbn (P:Program):List ResultVar→Option (List RS)
 | []=>some []
 | .tmp t::r=>(Qbn P r).map (.t t::·)
 | .cell a t::r=>match Qbg P t,Qbn P r with
  | some ty,some l=>some (.cell a ty::l)
  | _,_=>none
def rv (s:FS):RS→AV
 | .t i=>s.T i
 | .cell a ty=>match s.T a with
  | .ptr b off=>match s.H b with
   | .cells cs=>wr ty cs off
   | _=>.any
  | _=>.any
def Wd (s:FS):List RS→Prop
 | []=>True
 | .t _::r=>Wd s r
 | .cell a ty::r=>(match s.T a with
  | .ptr b off=>match s.H b with
   | .cells cs=>Qah ty cs off
   | _=>False
  | _=>False)∧Wd s r
def rvs (s:FS):List RS→AV
 | [x]=>rv s x
 | l=>.tup (l.map (rv s))
def Yi (s:FS):AV→AV
 | .sl es b off n _=>match s.H b with
  | .cells cs=>.isl n ((cs.drop off).take (n * es))
  | _=>.any
 | v=>v
def Ys (s:FS):AV→AV
 | .agg cs=>.agg (cs.map (Yi s))
 | v=>Yi s v
def frz (s:FS):AV→AV
 | .tup vs=>.tup (vs.map (Ys s))
 | v=>Ys s v
def Qn8 (rs:List RS) (r:AV):EX→St→Prop
 | .exit _,_=>False
 | _,s=>Wd s.fs rs∧frz s.fs (rvs s.fs rs)=r
def Qaf:Nat→List AV→List (Nat × AV)
 | _,[]=>[]
 | k,x::xs=>(k,x)::Qaf (k + 1) xs
theorem Qjo:∀ (xs:List AV) (k i:Nat),look (Qaf k xs) i=if k≤i∧i < k + xs.length then xs.getD (i - k) .any else .any
 | [],k,i=>by
  rw[if_neg (fun h=>by have:=h.2;simp at this;omega)];rfl
 | x::xs,k,i=>by
  simp only[Qaf]
  rw[Zt,Qjo xs (k + 1) i]
  by_cases h:k=i
  ·subst h;rw[if_pos rfl,if_pos Zsi];simp
  ·rw[if_neg h]
   simp only[List.length_cons]
   by_cases h2:k + 1≤i∧i < k + 1 + xs.length
   ·rw[if_pos h2,if_pos Zom]
    have:i - k=(i - (k + 1)) + 1:=by omega
    rw[this];simp
   ·rw[if_neg h2,if_neg Zom]
theorem Qud {g:Nat→GM} {s:FS} {a:Act} {w:World} (hR:R c g s a w):∀ (rs:List ResultVar) (l:List RS),Qbn P rs=some l→Wd s l →
  ∃ vs:List Value,(rs.mapM (fun x=>(match x with|.tmp t=>pure (a.tmps.getD t undef)|.cell ad t=>do loadVar t (← asAddr (a.tmps.getD ad undef)):Sem Value))).run P w=.ok vs w∧VRs g (Qn c g s) w (l.map (rv s)) vs
 | [],l,he,_=>by simp[Qbn]at he;subst he;exact ⟨[],by simp,trivial⟩
 | .tmp t::r,l,he,ho=>by
  simp only[Qbn,Option.map_eq_some_iff]at he
  obtain ⟨l',h1,rfl⟩:=he
  obtain ⟨vs,h2,h3⟩:=Qud hR r l' h1 ho
  exact ⟨a.tmps.getD t undef::vs,by simp only[List.mapM_cons,Sem.run_bind,Sem.run_pure,Result.andThen_ok,h2],hR.t t,h3⟩
 | .cell ad t::r,l,he,ho=>by
  simp only[Qbn]at he
  split at he
  ·rename_i ty l' hty hl
   simp at he;subst he
   obtain ⟨ho1,ho2⟩:=ho
   obtain ⟨vs,h2,h3⟩:=Qud hR r l' hl ho2
   have ht:=hR.t ad
   cases hT:s.T ad<;>rw[hT]at ho1<;>simp only at ho1
   rename_i b off
   rw[hT]at ht
   obtain ⟨k,e1,e2⟩:=Qf2 ht
   cases hH:s.H b<;>rw[hH]at ho1<;>simp only at ho1
   rename_i cs
   have hbr:=hR.h b
   rw[hH]at hbr
   have hload:∃ v,(loadVar t ⟨k,off,none⟩).run P w=.ok v w∧VR g (Qn c g s) w (wr ty cs off) v:=by
    by_cases hpos:0 < cs.length
    ·obtain ⟨k',us,q1,q2,q3,q4⟩:=Qgs hbr hpos
     rw[e2]at q1;cases q1
     obtain ⟨v,hr,hvr⟩:=Qbj (P:=P) (o:=0) hty q2 q3 q4 ho1
     exact ⟨v,by simpa [Instr.loadAt,Instr.sureAddr] using hr,hvr⟩
    ·obtain ⟨rfl,rfl,rfl⟩:=Qs6 ho1 hpos
     obtain ⟨v,hr,hvr⟩:=Qbj (P:=P) (g:=g) (W:=Qn c g s) (k:=k) (o:=0) (us:=fun _=>undef) hty (fun j hj=>absurd hj Zsi) (fun j hj=>absurd hj Zsi) (fun j hj=>absurd hj Zsi) ho1
     exact ⟨v,by simpa [Instr.loadAt,Instr.sureAddr] using hr,hvr⟩
   obtain ⟨v,hv1,hv2⟩:=hload
   refine ⟨v::vs,?_,?_,h3⟩
   ·have hasa:(asAddr (a.tmps.getD ad undef)).run P w=.ok ⟨k,off,none⟩ w:=by rw[e1];rfl
    simp only[List.mapM_cons,Sem.run_bind,hasa,Sem.run_pure,Result.andThen_ok,hv1,h2]
   ·have:rv s (.cell ad ty)=wr ty cs off:=by simp only[rv,hT,hH]
    rw[this];exact hv2
  ·cases he
theorem Qe4 {fn:Func} {l:List RS} {g:Nat→GM} {s:FS} {a:Act} {w:World} (hR:R c g s a w) (he:Qbn P fn.results.toList=some l) (ho:Wd s l):∃ v,(results fn a.tmps).run P w=.ok v w∧VR g (Qn c g s) w (rvs s l) v:=by
 obtain ⟨vs,h1,h2⟩:=Qud hR _ _ he ho
 have h3:(fn.results.mapM (fun x=>(match x with|.tmp t=>pure (a.tmps.getD t undef)|.cell ad t=>do loadVar t (← asAddr (a.tmps.getD ad undef)):Sem Value))).run P w=.ok vs.toArray w:=by
  rw[Array.mapM_eq_mapM_toList]
  simp only[Sem.run_map,h1,Result.andThen_ok]
 have h4:(results fn a.tmps).run P w=.ok (if h:vs.toArray.size=1 then vs.toArray[0] else .tuple vs.toArray) w:=by
  unfold results
  rw[Sem.run_bind]
  exact (congrArg (fun r=>Result.andThen r _) h3).trans rfl
 refine ⟨_,h4,?_⟩
 clear h4 h3 h1
 match l,vs,h2 with
 | [x],[v],h2=>exact h2.1
 | [],[],_=>exact .tup rfl fun j hj=>absurd hj Zsi
 | x::y::l,u::v::vs,h2 =>
  rw[dif_neg Zsi]
  have hl:=h2.length
  exact .tup (by simp at hl ⊢;omega) fun j hj=>by
   have:=h2.get j hj
   simpa using this
theorem Xks {g:Nat→GM} {s:FS} {a:Act} {w:World} (hR:R c g s a w) {b k:Nat} (hl:(s.H b).live) (hg:g b=.re k):¬ c.X k:=fun hx=>by
 have h1:=hR.xs k hx
 rcases hR.old b k hl hg with h|h
 ·omega
 ·exact h1.2 h
theorem VR.shut {g:Nat→GM} {s:FS} {a:Act} {w:World} (hR:R c g s a w) {v:AV} {u:Value} (h:VR g (Qn c g s) w v u) (hn:Qe 0 v):VR (fun _=>.un) c.X w v u :=
 (h.nm hn (g':=fun _=>.un) (fun b hb=>absurd hb Zom)).mono (Fr.refl _ _) (fun _ _ h=>.inl h) (fun _ _=>rfl)
theorem Xa8 {g:Nat→GM} {s:FS} {a:Act} {w:World} (hR:R c g s a w) {v:AV} {u:Value} (h:VR g (Qn c g s) w v u) (hn:Qe 0 (Yi s v)):VR (fun _=>.un) c.X w (Yi s v) u:=by
 by_cases hs:∃ es b off n k,v=.sl es b off n k
 ·obtain ⟨es,b,off,n,k,rfl⟩:=hs
  simp only[Yi]at hn ⊢
  cases hH:s.H b with
  | cells cs =>
   rw[hH]at hn
   simp only at hn ⊢
   simp only[Qe]at hn
   have hbr:=hR.h b
   rw[hH]at hbr
   rcases Qar h with ⟨kk,cap,e,cur,fz,rfl,hg,h1,h2,h3,h4,h5⟩|⟨ad0,rfl,hg,rfl,rfl⟩
   ·rw[hg]at hbr
    have hx:=Xks hR (by rw[hH];trivial) hg
    cases hbr with
    | cells hb hl h11 hv hz =>
     rename_i cur2 e2 fz2
     rw[h4]at hb;cases hb
     have hlen:∀ j,j < ((cs.drop off).take (n * es)).length→off + j < cs.length∧j < n * es:=fun j hj=>by simp at hj;omega
     refine .isl (us:=fun j=>cur.getD (off + j) undef) Zom h3 (fun j hj=>?_) fun j hj=>?_
     ·obtain ⟨hj1,hj2⟩:=hlen j hj
      refine ⟨kk,off,rfl,?_,hx,h11 _ hj1⟩
      have:=cell_of_row w kk (off + j) cur e fz h4
      unfold Wu
      rw[this]
      have:off + j < cur.size:=by omega
      simp[Array.getD,this]
     ·obtain ⟨hj1,hj2⟩:=hlen j hj
      have ee:((cs.drop off).take (n * es)).getD j .any=cs.getD (off + j) .any:=by simp only[List.getD,List.getElem?_take,List.getElem?_drop,if_pos hj2]
      have hn':=Zn hn j
      rw[ee]at hn' ⊢
      exact (hv _ hj1).shut hR hn'
   ·refine .isl (us:=fun _=>undef) (Nat.le_refl 0) (by simp[maxLen]) (fun j hj=>?_) fun j hj=>?_
    ·simp at hj
    ·simp at hj
  | _=>exact .any _
 ·have:Yi s v=v:=by
   cases v<;>first|rfl|exact absurd ⟨_,_,_,_,_,rfl⟩ hs
  rw[this]at hn ⊢
  exact h.shut hR hn
theorem Qpc {g:Nat→GM} {s:FS} {a:Act} {w:World} (hR:R c g s a w) {v:AV} {u:Value} (h:VR g (Qn c g s) w v u) (hn:Qe 0 (Ys s v)):VR (fun _=>.un) c.X w (Ys s v) u:=by
 by_cases hs:∃ cs,v=.agg cs
 ·obtain ⟨cs,rfl⟩:=hs
  simp only[Ys]at hn ⊢
  simp only[Qe]at hn
  obtain ⟨us,rfl,h1,h2,h3⟩:=Kv h
  refine .agg (by simpa using h1) (fun j hj=>h2 j (by simpa using hj)) fun j hj=>?_
  have hj':j < cs.length:=by simpa using hj
  have ee:(cs.map (Yi s)).getD j .any=Yi s (cs.getD j .any):=by simp[List.getD,hj']
  have hn':=Zn hn j
  rw[ee]at hn' ⊢
  exact Xa8 hR (h3 j hj') hn'
 ·have:Ys s v=Yi s v:=by
   cases v<;>first|rfl|exact absurd ⟨_,rfl⟩ hs
  rw[this]at hn ⊢
  exact Xa8 hR h hn
theorem Xxm {g:Nat→GM} {s:FS} {a:Act} {w:World} (hR:R c g s a w) {v:AV} {u:Value} (h:VR g (Qn c g s) w v u) (hn:Qe 0 (frz s v)):VR (fun _=>.un) c.X w (frz s v) u:=by
 by_cases hs:∃ cs,v=.tup cs
 ·obtain ⟨cs,rfl⟩:=hs
  simp only[frz]at hn ⊢
  simp only[Qe]at hn
  obtain ⟨us,rfl,h1,h3⟩:=Qh1 h
  refine .tup (by simpa using h1) fun j hj=>?_
  have hj':j < cs.length:=by simpa using hj
  have ee:(cs.map (Ys s)).getD j .any=Ys s (cs.getD j .any):=by simp[List.getD,hj']
  have hn':=Zn hn j
  rw[ee]at hn' ⊢
  exact Qpc hR (h3 j hj') hn'
 ·have:frz s v=Ys s v:=by
   cases v<;>first|rfl|exact absurd ⟨_,rfl⟩ hs
  rw[this]at hn ⊢
  exact Qpc hR h hn
theorem Xwp {w:World} {vs:List Value} {args:List AV} {N:Nat} (hN:args.length≤N) {X:Nat→Prop} {gl:Nat→AV} (hX:∀ k,X k→k < w.heap.size) (hgl:∀ i,VR (fun _=>.un) X w (gl i) (.pointer (some ⟨i,0,none⟩)))
  (hv:VRs (fun _=>.un) X w args vs):R ⟨N,w,fun _=>False,X,gl,[]⟩ (fun _=>.un) (⟨Qaf 0 args,[],0⟩:St).fs { tmps:=vs.toArray++Array.replicate (N - vs.toArray.size) undef,defers:=[] } w:=by
 have hl:=hv.length
 have hH:∀ b,(⟨Qaf 0 args,[],0⟩:St).fs.H b=.free:=fun b=>by
  show Qb [] 0 b=.free
  rcases Zs [] 0 b with h|⟨p,hp,_⟩
  ·rw[h];simp
  ·cases hp
 have hW:∀ k,Qn ⟨N,w,fun _=>False,X,gl,[]⟩ (fun _=>.un) (⟨Qaf 0 args,[],0⟩:St).fs k→X k:=by
  rintro k (h|⟨b,h1,_⟩)
  ·exact h
  ·rw[hH]at h1;exact h1.elim
 have hmono:∀ {v u},VR (fun _=>.un) X w v u→VR (fun _=>.un) (Qn ⟨N,w,fun _=>False,X,gl,[]⟩ (fun _=>.un) (⟨Qaf 0 args,[],0⟩:St).fs) w v u:=fun h=>h.mono (Fr.refl _ _) (fun k _=>hW k) (fun _ _=>rfl)
 refine ⟨by simp;omega,rfl,fun i=>?_,fun i=>hmono (hgl i),fun b=>by rw[hH];exact .free,fun b b' k h=>by rw[hH]at h;exact h.elim,fun b k h=>by rw[hH]at h;exact h.elim,Fr.refl _ _,fun k hk=>⟨hX k hk,id⟩,fun p hp=>by cases hp⟩
 show VR _ _ w (look (Qaf 0 args) i) _
 rw[Qjo]
 split
 ·rename_i h
  have hi:i < vs.length:=by omega
  have:=hv.get i Zom
  have e:(vs.toArray++Array.replicate (N - vs.toArray.size) undef).getD i undef=vs.getD i undef:=by
   simp only[Array.getD_eq_getD_getElem?,List.getD]
   rw[Array.getElem?_append_left (by simpa using hi)]
   simp
  rw[e]
  simpa using hmono this
 ·exact .any _
theorem Xst {gl : Nat → AV} {f : FuncId} {fn : Func} {code : Code} {t : TC} {rs : List RS} {args : List AV} {r : AV} (hm : P.follows .mixedOrders = true) (hf : P.funcs[f]? = some fn) (hb : fn.body = some code) (hname : (fn.name == "runtime.NumGoroutine") = false)
  (he:Zz P fn.ntmps code=some t) (hr:Qbn P fn.results.toList=some rs) (hN:args.length≤fn.ntmps) (hnm:Qe 0 r)
  (h:∀ c:Cx,c.gh=[]→c.gl=gl→xw P c t (Qn8 rs r) ⟨Qaf 0 args,[],0⟩):PS P gl f args r:=by
 refine ⟨⟨fn,hf,by rw[hb];rfl,hname⟩,fun w vs X hX hgl hv=>?_⟩
 refine calls_of_wp hf hb ?_
 have hR:=Xwp hN hX hgl hv
 have:=Qcn (c:=⟨fn.ntmps,w,fun _=>False,X,gl,[]⟩) hm code t _ _ he (h _ rfl rfl) _ _ _ hR
 refine wp_mono this fun e a' w' hq=>?_
 have fin:∀ (g:Nat→GM) (s:St),R ⟨fn.ntmps,w,fun _=>False,X,gl,[]⟩ g s.fs a' w'→(Wd s.fs rs∧frz s.fs (rvs s.fs rs)=r)→a'.defers=[]∧∃ v,(results fn a'.tmps).run P w'=.ok v w'∧(∃ v_1,Ending.returned v=.returned v_1∧VR (fun _=>.un) X w' r v_1∧Fr w w' fun _=>False):=by
  intro g s hR' ⟨h1,h2⟩
  obtain ⟨v,h3,h4⟩:=Qe4 hR' hr h1
  refine ⟨hR'.def_,v,h3,v,rfl,?_,hR'.fr⟩
  rw[← h2]at hnm ⊢
  exact Xxm hR' h4 hnm
 cases e with
 | normal=>obtain ⟨g,s,hR',hq'⟩:=hq;exact fin g s hR' hq'
 | ret=>obtain ⟨g,s,hR',hq'⟩:=hq;exact fin g s hR' hq'
 | exit i=>obtain ⟨g,s,hR',hq'⟩:=hq;exact hq'.elim
 | goto l=>exact hq.elim
 | panic ch=>exact hq.elim
 | outgrown=>exact hq.elim
theorem Qcy {o:Oper} {f:FuncId} {xs:List Operand} (h:Xy P o=some (.call f,xs)):∃ ts,o.op=.call ⟨.value (.func f),xs.toArray,ts⟩:=by
 unfold Xy at h
 repeat' split at h
 all_goals first
  | (simp only[Option.some.injEq,Prod.mk.injEq,PK.call.injEq]at h;obtain ⟨rfl,rfl⟩:=h;rename_i hop;exact ⟨_,by rw[hop]⟩)
  | (simp at h;done)
  | (cases h;done)
  | (simp[Option.map_eq_some_iff]at h;done)
theorem Qdz {f:FuncId} (hc:Qdr P f) {o:Oper} {xs:List Operand} {ts:Array TypeId} (ho:o.op=.call ⟨.value (.func f),xs.toArray,ts⟩) (a:Act) (w:World) :
  (execOp a.eval o).run P w=.ok (.enter f (xs.map a.eval).toArray) w:=by
 obtain ⟨fn,h1,h2,h3⟩:=hc
 have h2':fn.body≠none:=fun e=>by rw[e]at h2;cases h2
 have h3' : fn.name ≠ "runtime.NumGoroutine" := fun e => by rw [e] at h3; cases h3
 simp[execOp,ho,resolve,Act.eval,Deferred.ofValue,invoke,callFunc,program,Sem.run,h1,h2',h3']
theorem Qta {g g':Nat→GM} {W:Nat→Prop} {w:World} {n:Nat} (hg:∀ b,b < n→g b=g' b):∀ {xs:List AV} {vs:List Value},VRs g W w xs vs→nmAll n xs→VRs g' W w xs vs
 | [],[],_,_=>trivial
 | _::_,_::_,h,hn=>⟨h.1.nm hn.1 hg,Qta hg h.2 hn.2⟩
 | [],_::_,h,_=>h.elim
 | _::_,[],h,_=>h.elim
def Yk (d:Option Nat) (xs:List TV) (gd:Option (Nat × Bool)):Foot:=⟨gdT gd++Xj xs,[],d.toList,[]⟩
def St.putO (s:St) (d:Option Nat) (v:AV):St :=
 match d with
 | some d=>s.put d v
 | none=>s
def Wt (gl:Nat→AV) (s:FS) (xs:List TV) (gd:Option (Nat × Bool)):Prop:=gOk s gd∧Qt (gB s gd) (evs gl s xs)
theorem Qq8 {s:St} {d:Option Nat} {f:FuncId} {xs:List TV} {gd:Option (Nat × Bool)} {args:List AV} {r:AV} (hok:Wt c.gl s.fs xs gd) (hargs:(evs c.gl s.fs xs).map Qj=args) (hnm:nmAll 0 args)
  (hps:ob (gB s.fs gd) (PS P c.gl f args r)):Kj P c (.pd d (.call f) xs gd) s.fs (Yk d xs gd) (s.putO d (cw (gB s.fs gd) r)).fs:=by
 intro ops io he
 obtain ⟨hgd,hdst,hd,ys,hel,rfl⟩:=Zd he
 obtain ⟨ts,hop⟩:=Qcy hel
 have hput:(s.putO d (cw (gB s.fs gd) r)).fs=match d with|some d=>s.fs.put d (cw (gB s.fs gd) r)|none=>s.fs:=by
  cases d with
  | none=>rfl
  | some d=>exact St.fs_put _ _ _
 rw[hput]
 refine ⟨fun i hi=>?_,fun b _=>by cases d<;>rfl,?_⟩
 ·cases d with
  | none=>rfl
  | some d=>show (s.fs.put d _).T i=_;rw[FS.T_put,if_neg (fun e=>hi (by simp[Yk,e]))]
 ·intro s2 hT hH g a w hR K Q' hK
  have hevs:evs c.gl s2 (ys.map tvO)=evs c.gl s.fs (ys.map tvO):=Ye fun i hi=>hT i (by simp[Yk,hi])
  have hg:∀ t b,gd=some (t,b)→s2.T t=s.fs.T t:=fun t b e=>hT t (by simp[Yk,e,gdT])
  have hgB:gB s2 gd=gB s.fs gd:=by
   cases gd with
   | none=>rfl
   | some p=>obtain ⟨t,b⟩:=p;simp only[gB,hg t b rfl]
  have hgO:gOk s2 gd:=by
   have:=hok.1
   cases gd with
   | none=>exact this
   | some p=>obtain ⟨t,b⟩:=p;simpa only[gOk,hg t b rfl] using this
  have hK':∀ v w',Fr w w' (fun _=>False)→VR g (Qn c g s2) w' (cw (gB s.fs gd) r) v→K (a.put io.dst v) w':=fun v w' hf hv=>by
   rw[hdst]
   have hR':=hR.grow hf
   cases d with
   | none =>
    refine hK g _ w' ?_
    have:ovr s2 s.fs (Yk none (ys.map tvO) gd)=s2:=by unfold ovr Yk;simp
    simp only[this];exact hR'
   | some d =>
    refine hK g _ w' ?_
    show R c g (ovr s2 (s.fs.put d _) ⟨gdT gd++Xj (ys.map tvO),[],[d],[]⟩) _ _
    rw[Qdo]
    exact hR'.put (by simpa using hd) hv
  unfold Qan
  rw[Qb9 hgd hR hgO,hgB]
  have run:(∀ b,gB s.fs gd=some b→b=true)→io.wp P a w K Q':=by
   intro hb
   have hc1:Qt none (evs c.gl s2 (ys.map tvO)):=by
    rw[hevs]
    have:=hok.2
    cases hgb:gB s.fs gd with
    | none=>rw[hgb]at this;exact this
    | some b=>rw[hgb]at this;exact Qaw (hb b hgb) this
   have hps':PS P c.gl f args r:=by
    cases hgb:gB s.fs gd with
    | none=>rw[hgb]at hps;exact hps
    | some b=>rw[hgb]at hps;exact hps (hb b hgb)
   have hv:=Yh (hR.evs ys) hc1
   rw[hevs,hargs]at hv
   have hv':VRs (fun _=>.un) (Qn c g s2) w args (ys.map a.eval):=Qta (n:=0) (fun b hb=>absurd hb Zom) hv hnm
   have hX:∀ k,Qn c g s2 k→k < w.heap.size:=by
    rintro k (h|⟨b',hl,hg'⟩)
    ·have:=(hR.xs k h).1;have:=hR.fr.size;omega
    ·exact BR.lt (hg' ▸ hR.h b') hl
   have hcall:=hps'.2 w _ _ hX (fun i=>(hR.gl i)) hv'
   unfold Oper.wp
   rw[Qdz hps'.1 hop]
   rw[Oper.upon_enter]
   refine hcall.mono fun e w' ⟨v,e1,e2,e3⟩=>?_
   subst e1
   refine hK' v w' e3 ?_
   have hv2:VR g (Qn c g s2) w' r v:=e2.mono (Fr.refl _ _) (fun _ _ h=>h) (fun _ h=>absurd rfl h)
   cases hgb:gB s.fs gd with
   | none=>exact hv2
   | some b=>exact .cnd (fun _=>hv2) fun h=>by rw[hb b hgb]at h;cases h
  cases hgb:gB s.fs gd with
  | none=>simp only[Option.getD_none,if_true];exact run fun b h=>by rw[hgb]at h;cases h
  | some b =>
   cases b with
   | true=>simp only[Option.getD_some,if_true];exact run fun b h=>by rw[hgb]at h;cases h;rfl
   | false =>
    simp only[Option.getD_some,Bool.false_eq_true,if_false]
    refine hK' undef w (Fr.refl _ _) ?_
    rw[hgb]
    exact .cnd (fun h=>by cases h) fun _=>rfl
theorem Ya9 {r0:List TOp} {K:St→Prop} {s:St} {d:Option Nat} {f:FuncId} {xs:List TV} {gd:Option (Nat × Bool)} {args:List AV} {r:AV} (hps:ob (gB s.fs gd) (PS P c.gl f args r)) (hargs:(evs c.gl s.fs xs).map Qj=args)
  (hok:Wt c.gl s.fs xs gd∧nmAll 0 args∧XP P c r0 K (s.putO d (cw (gB s.fs gd) r))):Yc P c (.pd d (.call f) xs gd) r0 K s :=
 .inl ⟨_,_,Qq8 hok.1 hargs hok.2.1 hps,hok.2.2⟩
theorem Xz8 {anc:List Nat} {fs:List Foot} {r0:List TOp} {K:St→Prop} {s:St} {d:Option Nat} {f:FuncId} {xs:List TV} {gd:Option (Nat × Bool)} {args:List AV} {r:AV} (hps:ob (gB s.fs gd) (PS P c.gl f args r)) (hargs:(evs c.gl s.fs xs).map Qj=args)
  (hok:Wt c.gl s.fs xs gd∧nmAll 0 args∧XD P c anc r0 (Yk d xs gd::fs) K (s.putO d (cw (gB s.fs gd) r))):Za P c anc (.pd d (.call f) xs gd) r0 fs K s :=
 ⟨_,_,Qq8 hok.1 hargs hok.2.1 hps,hok.2.2⟩
structure FT (P:Program) (f:FuncId) (fn:Func) (t:TC) (rs:List RS):Prop where
 func:P.funcs[f]?=some fn
 code:fn.body.bind (Zz P fn.ntmps)=some t
 res:Qbn P fn.results.toList=some rs
 name : (fn.name == "runtime.NumGoroutine") = false
 mixed:P.follows .mixedOrders=true
def tcO (P:Program) (fn:Func):TC:=(fn.body.bind (Zz P fn.ntmps)).getD .skip
theorem Xwt {α:Type} {o:Option α} (d:α) (h:o.isSome=true):o=some (o.getD d):=by
 cases o with
 | none=>cases h
 | some x=>rfl
theorem FT.of {P : Program} {f : FuncId} {fn : Func} {rs : List RS} (h1 : P.funcs[f]? = some fn) (h2 : (fn.body.bind (Zz P fn.ntmps)).isSome = true := by kernel_rfl) (h3 : Qbn P fn.results.toList = some rs := by kernel_rfl) (h4 : (fn.name == "runtime.NumGoroutine") = false := by kernel_rfl) (h5 : P.follows .mixedOrders = true := by kernel_rfl) : FT P f fn (tcO P fn) rs :=
 ⟨h1,Xwt _ h2,h3,h4,h5⟩
theorem FT.ps {gl:Nat→AV} {f:FuncId} {fn:Func} {t:TC} {rs:List RS} (hF:FT P f fn t rs) {args:List AV} {r:AV} (hN:args.length≤fn.ntmps) (hnm:Qe 0 r)
  (h:∀ c:Cx,c.gh=[]→c.gl=gl→xw P c t (Qn8 rs r) ⟨Qaf 0 args,[],0⟩):PS P gl f args r:=by
 have hc:=hF.code
 cases hb:fn.body with
 | none=>rw[hb]at hc;simp at hc
 | some code =>
  rw[hb]at hc
  exact Xst hF.mixed hF.func hb hF.name hc hF.res hN hnm h
end
def Xqm (n es o:Nat):Bk→AV
 | .cells cs=>.isl n ((cs.drop o).take (n * es))
 | _=>.any
def Xrs (s:FS):Option Nat→Bk
 | some b=>s.H b
 | none=>.free
def gB1:AV→Bool→Option Bool
 | .bool b,w=>some (b == w)
 | .cnd c (.bool b),w=>some (c && (b == w))
 | _,_=>some false
def Qu1:AV→Prop
 | .bool _=>True
 | .cnd _ (.bool _)=>True
 | _=>False
def Xe4:Bk→TY→Nat→AV→Prop
 | .cells cs,ty,o,v=>Qkm ty cs o v
 | _,_,_,_=>False
def rvB:Bk→TY→Nat→AV
 | .cells cs,ty,o=>wr ty cs o
 | _,_,_=>.any
def rvC (s:FS) (ty:TY):AV→AV
 | .ptr b o=>rvB (s.H b) ty o
 | _=>.any
def Qr4:Bk→TY→Nat→Prop
 | .cells cs,ty,o=>Qah ty cs o
 | _,_,_=>False
def Xc7 (s:FS) (ty:TY):AV→Prop
 | .ptr b o=>Qr4 (s.H b) ty o
 | _=>False
theorem Xc3 (n es o:Nat) (cs:List AV):Xqm n es o (.cells cs)=.isl n ((cs.drop o).take (n * es)):=rfl
theorem Yb6 (s:St) (i:Nat):s.fs.T i=look s.t i:=rfl
theorem Ybk (s:St) (i:Nat):s.fs.H i=Qb s.h s.n i:=rfl
theorem Xnh (b:Bool):(b == true)=b:=by cases b<;>rfl
theorem Xfz (b:Bool):(b == false)=!b:=by cases b<;>rfl
theorem Xz1 (b:Bool):(true != b)=!b:=by cases b<;>rfl
theorem Xzp (b:Bool):(false != b)=b:=by cases b<;>rfl
theorem Qsg (b c:Bool):((b && c)=true→b=true)=True:=by cases b<;>simp
theorem Xyh (b:Bool):(bif b then true else false)=b:=by cases b<;>rfl
theorem Xz0 (b c:Bool):(bif b then true else c)=(b || c):=by cases b<;>rfl
theorem Xth (b c:Bool):(bif b then c else false)=(b && c):=by cases b<;>rfl
theorem Qga (n j:Nat):Qb [] n j=if j < n then .dead else .free:=rfl
theorem Qw4 (i:Nat) (v:Bk) (l:List (Nat × Bk)) (n j:Nat):Qb ((i,v)::l) n j=bif i == j then v else Qb l n j:=rfl
theorem Xrp (j:Nat):look [] j=.any:=rfl
theorem Xaf (i:Nat) (v:AV) (l:List (Nat × AV)) (j:Nat):look ((i,v)::l) j=bif i == j then v else look l j:=rfl
theorem Qy7 (k:IntKind) (n:Int):Qj (.int k n)=(.int k n):=rfl
theorem Xki (g:Option Bool) (k:IntKind) (n:Int):cok g (.int k n)=True:=rfl
theorem Qte (k:IntKind) (n:Int):Jo (.int k n)=[.int k n]:=rfl
theorem Xd1 (s:FS) (k:IntKind) (n:Int):Ys s (.int k n)=Yi s (.int k n):=rfl
theorem Xdf (s:FS) (k:IntKind) (n:Int):Yi s (.int k n)=(.int k n):=rfl
theorem Xjs (s:FS) (k:IntKind) (n:Int):frz s (.int k n)=Ys s (.int k n):=rfl
theorem Xk5 (k:IntKind) (n:Int):one (.int k n)=True:=rfl
theorem Xfq (k:IntKind) (n:Int):Qb2 (.int k n)=True:=rfl
theorem Qv9 (k:IntKind) (n:Int) (r:List AV):Jg ((.int k n)::r)=none:=rfl
theorem Xev (m:Nat) (k:IntKind) (n:Int):Qe m (.int k n)=True:=by simp only[Qe]
theorem Xnw (ρ:Nat→Nat) (k:IntKind) (n:Int):ren ρ (.int k n)=(.int k n):=by simp only[ren]
theorem Qsl (b:Bool):Qj (.bool b)=(.bool b):=rfl
theorem Xbv (g:Option Bool) (b:Bool):cok g (.bool b)=True:=rfl
theorem Qql (b:Bool):Jo (.bool b)=[.bool b]:=rfl
theorem Qxe (s:FS) (b:Bool):Ys s (.bool b)=Yi s (.bool b):=rfl
theorem Qxv (s:FS) (b:Bool):Yi s (.bool b)=(.bool b):=rfl
theorem Xfs (s:FS) (b:Bool):frz s (.bool b)=Ys s (.bool b):=rfl
theorem Xfo (b:Bool):one (.bool b)=True:=rfl
theorem Qwl (b:Bool):Qb2 (.bool b)=True:=rfl
theorem Qqt (b:Bool) (r:List AV):Jg ((.bool b)::r)=none:=rfl
theorem Qwp (m:Nat) (b:Bool):Qe m (.bool b)=True:=by simp only[Qe]
theorem Xcu (ρ:Nat→Nat) (b:Bool):ren ρ (.bool b)=(.bool b):=by simp only[ren]
theorem Qx9 (l:List UInt8):Qj (.str l)=(.str l):=rfl
theorem Xj0 (g:Option Bool) (l:List UInt8):cok g (.str l)=True:=rfl
theorem Qso (l:List UInt8):Jo (.str l)=[.str l]:=rfl
theorem Xac (s:FS) (l:List UInt8):Ys s (.str l)=Yi s (.str l):=rfl
theorem Xfc (s:FS) (l:List UInt8):Yi s (.str l)=(.str l):=rfl
theorem Xla (s:FS) (l:List UInt8):frz s (.str l)=Ys s (.str l):=rfl
theorem Xlk (l:List UInt8):one (.str l)=True:=rfl
theorem Xab (l:List UInt8):Qb2 (.str l)=True:=rfl
theorem Qtg (l:List UInt8) (r:List AV):Jg ((.str l)::r)=none:=rfl
theorem Xde (m:Nat) (l:List UInt8):Qe m (.str l)=True:=by simp only[Qe]
theorem Xmx (ρ:Nat→Nat) (l:List UInt8):ren ρ (.str l)=(.str l):=by simp only[ren]
theorem Qwa (cs:List AV):Qj (.agg cs)=(.agg cs):=rfl
theorem Xgl (g:Option Bool) (cs:List AV):cok g (.agg cs)=True:=rfl
theorem Xb6 (s:FS) (cs:List AV):Yi s (.agg cs)=(.agg cs):=rfl
theorem Xkz (s:FS) (cs:List AV):frz s (.agg cs)=Ys s (.agg cs):=rfl
theorem Qvo (cs:List AV) (r:List AV):Jg ((.agg cs)::r)=none:=rfl
theorem Qwn (cs:List AV):Qj (.tup cs)=(.tup cs):=rfl
theorem Xmi (g:Option Bool) (cs:List AV):cok g (.tup cs)=True:=rfl
theorem Qru (cs:List AV):Jo (.tup cs)=[.tup cs]:=rfl
theorem Xdz (s:FS) (cs:List AV):Ys s (.tup cs)=Yi s (.tup cs):=rfl
theorem Xat (s:FS) (cs:List AV):Yi s (.tup cs)=(.tup cs):=rfl
theorem Qsc (cs:List AV) (r:List AV):Jg ((.tup cs)::r)=none:=rfl
theorem Qxo (b o:Nat):Qj (.ptr b o)=(.ptr b o):=rfl
theorem Xm3 (g:Option Bool) (b o:Nat):cok g (.ptr b o)=True:=rfl
theorem Qv1 (b o:Nat):Jo (.ptr b o)=[.ptr b o]:=rfl
theorem Xar (s:FS) (b o:Nat):Ys s (.ptr b o)=Yi s (.ptr b o):=rfl
theorem Xd0 (s:FS) (b o:Nat):Yi s (.ptr b o)=(.ptr b o):=rfl
theorem Xke (s:FS) (b o:Nat):frz s (.ptr b o)=Ys s (.ptr b o):=rfl
theorem Xh7 (b o:Nat):one (.ptr b o)=True:=rfl
theorem Xak (b o:Nat):Qb2 (.ptr b o)=True:=rfl
theorem Xbp (cs:List AV) (o:Nat):Qj (.xp cs o)=(.xp cs o):=rfl
theorem Xsb (g:Option Bool) (cs:List AV) (o:Nat):cok g (.xp cs o)=True:=rfl
theorem Qwq (cs:List AV) (o:Nat):Jo (.xp cs o)=[.xp cs o]:=rfl
theorem Xh6 (s:FS) (cs:List AV) (o:Nat):Ys s (.xp cs o)=Yi s (.xp cs o):=rfl
theorem Xma (s:FS) (cs:List AV) (o:Nat):Yi s (.xp cs o)=(.xp cs o):=rfl
theorem Xsv (s:FS) (cs:List AV) (o:Nat):frz s (.xp cs o)=Ys s (.xp cs o):=rfl
theorem Xq7 (cs:List AV) (o:Nat):one (.xp cs o)=True:=rfl
theorem Xmk (cs:List AV) (o:Nat):Qb2 (.xp cs o)=True:=rfl
theorem Qxd (cs:List AV) (o:Nat) (r:List AV):Jg ((.xp cs o)::r)=none:=rfl
theorem Xdj (es b o n c:Nat):Qj (.sl es b o n c)=(.sl es b o n c):=rfl
theorem Xo9 (g:Option Bool) (es b o n c:Nat):cok g (.sl es b o n c)=True:=rfl
theorem Qy2 (es b o n c:Nat):Jo (.sl es b o n c)=[.sl es b o n c]:=rfl
theorem Xhr (s:FS) (es b o n c:Nat):Ys s (.sl es b o n c)=Yi s (.sl es b o n c):=rfl
theorem Xol (s:FS) (es b o n c:Nat):frz s (.sl es b o n c)=Ys s (.sl es b o n c):=rfl
theorem Xrq (es b o n c:Nat):one (.sl es b o n c)=True:=rfl
theorem Xi7 (es b o n c:Nat):Qb2 (.sl es b o n c)=True:=rfl
theorem Qwz (n:Nat) (cs:List AV):Qj (.isl n cs)=(.isl n cs):=rfl
theorem Xkn (g:Option Bool) (n:Nat) (cs:List AV):cok g (.isl n cs)=True:=rfl
theorem Qul (n:Nat) (cs:List AV):Jo (.isl n cs)=[.isl n cs]:=rfl
theorem Xap (s:FS) (n:Nat) (cs:List AV):Ys s (.isl n cs)=Yi s (.isl n cs):=rfl
theorem Xf2 (s:FS) (n:Nat) (cs:List AV):Yi s (.isl n cs)=(.isl n cs):=rfl
theorem Xnm (s:FS) (n:Nat) (cs:List AV):frz s (.isl n cs)=Ys s (.isl n cs):=rfl
theorem Xnf (n:Nat) (cs:List AV):one (.isl n cs)=True:=rfl
theorem Xe6 (n:Nat) (cs:List AV):Qb2 (.isl n cs)=True:=rfl
theorem Qur (n:Nat) (cs:List AV) (r:List AV):Jg ((.isl n cs)::r)=none:=rfl
theorem Qu7:Qj .nils=.nils:=rfl
theorem Xb4 (g:Option Bool):cok g .nils=True:=rfl
theorem Qqw:Jo .nils=[.nils]:=rfl
theorem Qxz (s:FS):Ys s .nils=Yi s .nils:=rfl
theorem Qxu (s:FS):Yi s .nils=.nils:=rfl
theorem Xff (s:FS):frz s .nils=Ys s .nils:=rfl
theorem Xcg:one .nils=True:=rfl
theorem Qws:Qb2 .nils=True:=rfl
theorem Qqj (r:List AV):Jg (.nils::r)=none:=rfl
theorem Qy4 (m:Nat):Qe m .nils=True:=by simp only[Qe]
theorem Xer (ρ:Nat→Nat):ren ρ .nils=.nils:=by simp only[ren]
theorem Xau (f:FuncId) (cs:List AV):Qj (.cl f cs)=(.cl f cs):=rfl
theorem Xsf (g:Option Bool) (f:FuncId) (cs:List AV):cok g (.cl f cs)=True:=rfl
theorem Qxy (f:FuncId) (cs:List AV):Jo (.cl f cs)=[.cl f cs]:=rfl
theorem Xj4 (s:FS) (f:FuncId) (cs:List AV):Ys s (.cl f cs)=Yi s (.cl f cs):=rfl
theorem Xja (s:FS) (f:FuncId) (cs:List AV):Yi s (.cl f cs)=(.cl f cs):=rfl
theorem Xqi (s:FS) (f:FuncId) (cs:List AV):frz s (.cl f cs)=Ys s (.cl f cs):=rfl
theorem Xop (f:FuncId) (cs:List AV):one (.cl f cs)=True:=rfl
theorem Xmh (f:FuncId) (cs:List AV):Qb2 (.cl f cs)=True:=rfl
theorem Qw2 (f:FuncId) (cs:List AV) (r:List AV):Jg ((.cl f cs)::r)=none:=rfl
theorem Xf1 (b:Nat):Qj (.mp b)=(.mp b):=rfl
theorem Xsr (g:Option Bool) (b:Nat):cok g (.mp b)=True:=rfl
theorem Qy0 (b:Nat):Jo (.mp b)=[.mp b]:=rfl
theorem Xi5 (s:FS) (b:Nat):Ys s (.mp b)=Yi s (.mp b):=rfl
theorem Xms (s:FS) (b:Nat):Yi s (.mp b)=(.mp b):=rfl
theorem Xoa (s:FS) (b:Nat):frz s (.mp b)=Ys s (.mp b):=rfl
theorem Xpt (b:Nat):one (.mp b)=True:=rfl
theorem Xmv (b:Nat):Qb2 (.mp b)=True:=rfl
theorem Qyf (v:Value):Qj (.lit v)=(.lit v):=rfl
theorem Xgg (g:Option Bool) (v:Value):cok g (.lit v)=True:=rfl
theorem Qs5 (v:Value):Jo (.lit v)=[.lit v]:=rfl
theorem Xcv (s:FS) (v:Value):Ys s (.lit v)=Yi s (.lit v):=rfl
theorem Xav (s:FS) (v:Value):Yi s (.lit v)=(.lit v):=rfl
theorem Xij (s:FS) (v:Value):frz s (.lit v)=Ys s (.lit v):=rfl
theorem Qt2 (v:Value) (r:List AV):Jg ((.lit v)::r)=none:=rfl
theorem Xfp (m:Nat) (v:Value):Qe m (.lit v)=True:=by simp only[Qe]
theorem Xgt (ρ:Nat→Nat) (v:Value):ren ρ (.lit v)=(.lit v):=by simp only[ren]
theorem Qy8:Qj .any=.any:=rfl
theorem Xig (g:Option Bool):cok g .any=True:=rfl
theorem Qtn:Jo .any=[.any]:=rfl
theorem Xd3 (s:FS):Ys s .any=Yi s .any:=rfl
theorem Xfb (s:FS):Yi s .any=.any:=rfl
theorem Xj9 (s:FS):frz s .any=Ys s .any:=rfl
theorem Qvf (r:List AV):Jg (.any::r)=none:=rfl
theorem Xci (m:Nat):Qe m .any=True:=by simp only[Qe]
theorem Xii (ρ:Nat→Nat):ren ρ .any=.any:=by simp only[ren]
theorem Qxs (b:Bool) (v:AV):Qj (.cnd b v)=v:=rfl
theorem Xgp (g:Option Bool) (b:Bool) (v:AV):cok g (.cnd b v)=ob g (b=true):=rfl
theorem Qvh (cs:List AV):Jo (.agg cs)=cs:=rfl
theorem Xjj (s:FS) (es b o n c:Nat):Yi s (.sl es b o n c)=Xqm n es o (s.H b):=by simp only[Yi,Xqm]<;>(generalize s.H b=x;cases x<;>rfl)
theorem Xay (s:FS) (cs:List AV):Ys s (.agg cs)=.agg (cs.map (Yi s)):=rfl
theorem Xlt (s:FS) (cs:List AV):frz s (.tup cs)=.tup (cs.map (Ys s)):=rfl
theorem Xdw (cs:List AV):Qb2 (.agg cs)=True:=rfl
theorem Xcp:one (.lit (.pointer none))=True:=by simp[one,Value.oneCell']
theorem Xe1:one (.lit (.map none))=True:=by simp[one,Value.oneCell']
theorem Qv8 (b o:Nat) (r:List AV):Jg (.ptr b o::r)=some b:=rfl
theorem Qwc (es b o n c:Nat) (r:List AV):Jg (.sl es b o n c::r)=some b:=rfl
theorem Qw5 (b:Nat) (r:List AV):Jg (.mp b::r)=some b:=rfl
theorem Qvb:Jg []=none:=rfl
theorem Xao (s:FS) (l:List AV):Qdg s l=Xrs s (Jg l):=by simp only[Qdg];generalize Jg l=x;cases x<;>rfl
theorem Qw3 (s:FS) (b:Nat):Xrs s (some b)=s.H b:=rfl
theorem Qya (s:FS):Xrs s none=.free:=rfl
theorem Xis (k:IntKind) (n:Int):asI (.int k n)=n:=rfl
theorem Xbu (b:Bool):asB (.bool b)=b:=rfl
theorem Xlr (l:List UInt8):asS (.str l)=l:=rfl
theorem Xh2 (k:IntKind) (n:Int):isI k (.int k n)=True:=by simp[isI]
theorem Xiv (k:IntKind) (n:Int):isN (.int k n)=True:=by simp[isN]
theorem Xdb (b:Bool):isB (.bool b)=True:=by simp[isB]
theorem Xh9 (l:List UInt8):isS (.str l)=True:=by simp[isS]
theorem Xgo (p:Prop):ob none p=p:=rfl
theorem Xhv (b:Bool) (p:Prop):ob (some b) p=(b=true→p):=rfl
theorem Xik (v:AV):cw none v=v:=rfl
theorem Xih (b:Bool) (v:AV):cw (some b) v=.cnd b v:=rfl
theorem Xk8 (s:FS):gB s none=none:=rfl
theorem Xha (s:FS) (t:Nat) (w:Bool):gB s (some (t,w))=gB1 (s.T t) w:=by simp only[gB];generalize s.T t=x;rcases x with _|⟨_,y⟩|_|_|_|_|_|_|_|_|_|_|_|_|_<;>first|rfl|(cases y<;>rfl)
theorem Xey (b w:Bool):gB1 (.bool b) w=some (b == w):=rfl
theorem Xn8 (c b w:Bool):gB1 (.cnd c (.bool b)) w=some (c && (b == w)):=rfl
theorem Xcw (s:FS):gOk s none=True:=by simp[gOk]
theorem Xb0 (s:FS) (t:Nat) (w:Bool):gOk s (some (t,w))=Qu1 (s.T t):=by simp only[gOk];generalize s.T t=x;rcases x with _|⟨_,y⟩|_|_|_|_|_|_|_|_|_|_|_|_|_<;>first|rfl|(cases y<;>rfl)
theorem Qw9 (b:Bool):Qu1 (.bool b)=True:=by simp[Qu1]
theorem Xg2 (c b:Bool):Qu1 (.cnd c (.bool b))=True:=by simp[Qu1]
theorem Xkh (k:IntKind) (v:AV):wrS (.int k) v=.int k (asI v):=rfl
theorem Xfe (v:AV):wrS .bool v=.bool (asB v):=rfl
theorem Xkm (v:AV):wrS .str v=.str (asS v):=rfl
theorem Xix (v:AV):wrS .ref v=v:=rfl
theorem Xje (k:IntKind) (v:AV):okS (.int k) v=isI k v:=rfl
theorem Xep (v:AV):okS .bool v=isB v:=rfl
theorem Xm1 (v:AV):okS .str v=isS v:=rfl
theorem Xjw (v:AV):okS .ref v=True:=rfl
theorem Xwc (k:SK) (cs:List AV) (o:Nat):wr (.sc k) cs o=wrS k (cs.getD o .any):=rfl
theorem Xvj (n:Nat) (cs:List AV) (o:Nat):wr (.ag n) cs o=.agg ((cs.drop o).take n):=rfl
theorem Xmu (k:SK) (cs:List AV) (o:Nat):Qah (.sc k) cs o=(o < cs.length∧okS k (cs.getD o .any)):=rfl
theorem Xkf (n:Nat) (cs:List AV) (o:Nat):Qah (.ag n) cs o=(o + n≤cs.length):=rfl
theorem Xn7 (k:SK) (cs:List AV) (o:Nat) (v:AV):Qhv (.sc k) cs o v=cs.set o v:=rfl
theorem Xht (n:Nat) (cs:List AV) (o:Nat) (vs:List AV):Qhv (.ag n) cs o (.agg vs)=Ym cs o vs:=rfl
theorem Xfl (k:SK) (cs:List AV) (o:Nat) (v:AV):Qkm (.sc k) cs o v=(o < cs.length∧one v):=rfl
theorem Xdm (n:Nat) (cs:List AV) (o:Nat) (vs:List AV):Qkm (.ag n) cs o (.agg vs)=(vs.length=n∧o + n≤cs.length):=rfl
theorem Xdd (s:FS) (ty:TY) (b o:Nat) (v:AV):Qin s ty (.ptr b o) v=Xe4 (s.H b) ty o v:=by simp only[Qin,Xe4];generalize s.H b=x;cases x<;>rfl
theorem Qqr (cs:List AV) (ty:TY) (o:Nat) (v:AV):Xe4 (.cells cs) ty o v=Qkm ty cs o v:=rfl
theorem Xe7 (b o:Nat):Ul (.ptr b o)=b:=rfl
theorem Xcs (b o:Nat):Qj3 (.ptr b o)=o:=rfl
theorem Qpb (cs:List AV):Yo (.cells cs)=cs:=rfl
theorem Xzx (s:FS) (i:Nat):rv s (.t i)=s.T i:=rfl
theorem Xj7 (s:FS) (a:Nat) (ty:TY):rv s (.cell a ty)=rvC s ty (s.T a):=by simp only[rv];generalize s.T a=x;cases x<;>first|rfl|(simp only[rvC,rvB];generalize s.H _=y;cases y<;>rfl)
theorem Xgx (s:FS) (ty:TY) (b o:Nat):rvC s ty (.ptr b o)=rvB (s.H b) ty o:=rfl
theorem Qye (cs:List AV) (ty:TY) (o:Nat):rvB (.cells cs) ty o=wr ty cs o:=rfl
theorem Xbc (v:AV):ren (rl []) v=v:=Qc0 _ (fun _=>rfl) v
theorem Ql8 (l:List AV):rens (rl []) l=l:=by rw[Yf];exact (List.map_congr_left fun x _=>Qc0 _ (fun _=>rfl) x).trans (List.map_id l)
theorem Qx6 (cs:List AV):Xf (rl []) (.cells cs)=.cells cs:=by simp only[Xf,Ql8]
theorem Xpx (b:Nat):rl [] b=b:=rfl
theorem Xm5 (i j:Nat) (r:List (Nat × Nat)) (b:Nat):rl ((i,j)::r) b=bif i == b then j else rl r b:=rfl
theorem Xnd (ρ:Nat→Nat) (cs:List AV):ren ρ (.agg cs)=.agg (rens ρ cs):=by simp only[ren]
theorem Xju (ρ:Nat→Nat) (cs:List AV):ren ρ (.tup cs)=.tup (rens ρ cs):=by simp only[ren]
theorem Xsu (ρ:Nat→Nat) (cs:List AV) (o:Nat):ren ρ (.xp cs o)=.xp (rens ρ cs) o:=by simp only[ren]
theorem Xhl (ρ:Nat→Nat) (n:Nat) (cs:List AV):ren ρ (.isl n cs)=.isl n (rens ρ cs):=by simp only[ren]
theorem Xlo (ρ:Nat→Nat) (b o:Nat):ren ρ (.ptr b o)=.ptr (ρ b) o:=by simp only[ren]
theorem Xof (ρ:Nat→Nat) (es b o n c:Nat):ren ρ (.sl es b o n c)=.sl es (ρ b) o n c:=by simp only[ren]
theorem Xon (ρ:Nat→Nat) (b:Nat):ren ρ (.mp b)=.mp (ρ b):=by simp only[ren]
theorem Xsa (ρ:Nat→Nat) (f:FuncId) (cs:List AV):ren ρ (.cl f cs)=.cl f (rens ρ cs):=by simp only[ren]
theorem Xcb (m:Nat) (cs:List AV):Qe m (.agg cs)=nmAll m cs:=by simp only[Qe]
theorem Xan (m:Nat) (cs:List AV):Qe m (.tup cs)=nmAll m cs:=by simp only[Qe]
theorem Xmw (m o:Nat) (cs:List AV):Qe m (.xp cs o)=nmAll m cs:=by simp only[Qe]
theorem Xag (m n:Nat) (cs:List AV):Qe m (.isl n cs)=nmAll m cs:=by simp only[Qe]
theorem Xmo (m f:Nat) (cs:List AV):Qe m (.cl f cs)=nmAll m cs:=by simp only[Qe]
theorem Xe9 (m b o:Nat):Qe m (.ptr b o)=(b < m):=by simp only[Qe]
theorem Xhz (m es b o n c:Nat):Qe m (.sl es b o n c)=(b < m):=by simp only[Qe]
theorem Xkg (m b:Nat):Qe m (.mp b)=(b < m):=by simp only[Qe]
theorem Xfu (s:FS):Wd s []=True:=by simp[Wd]
theorem Xp4 (s:FS) (i:Nat) (r:List RS):Wd s (.t i::r)=Wd s r:=rfl
theorem Qxf (s:FS) (a:Nat) (ty:TY) (r:List RS):Wd s (.cell a ty::r)=(Xc7 s ty (s.T a)∧Wd s r):=by simp only[Wd];congr 1;generalize s.T a=x;cases x<;>first|rfl|(simp only[Xc7,Qr4];generalize s.H _=y;cases y<;>rfl)
theorem Qx0 (s:FS) (ty:TY) (b o:Nat):Xc7 s ty (.ptr b o)=Qr4 (s.H b) ty o:=rfl
theorem Qqs (cs:List AV) (ty:TY) (o:Nat):Qr4 (.cells cs) ty o=Qah ty cs o:=rfl
theorem Xi4 (s:FS) (x:RS):rvs s [x]=rv s x:=rfl
theorem Xn4 (s:FS) (x y:RS) (l:List RS):rvs s (x::y::l)=.tup (rv s x::rv s y::l.map (rv s)):=rfl
theorem Qxj (rs:List RS) (r:AV) (s:St):Qn8 rs r .ret s=(Wd s.fs rs∧frz s.fs (rvs s.fs rs)=r):=rfl
theorem Qow (rs:List RS) (r:AV) (s:St):Qn8 rs r .normal s=(Wd s.fs rs∧frz s.fs (rvs s.fs rs)=r):=rfl
theorem Qvr (rs:List RS) (r:AV) (i:Nat) (s:St):Qn8 rs r (.exit i) s=False:=rfl
theorem Qmk (i:Nat) (Q:EX→St→Prop) (s:St):Qgz i Q .normal s=Q .normal s:=rfl
theorem Qse (i:Nat) (Q:EX→St→Prop) (s:St):Qgz i Q .ret s=Q .ret s:=rfl
theorem Qqx (i j:Nat) (Q:EX→St→Prop) (s:St):Qgz i Q (.exit j) s=if j=i then Q .normal s else Q (.exit j) s:=rfl
theorem Qoz {σ:Type} (I:σ→Prop) (emb:σ→St) (μ:σ→Nat) (x:σ) (Q:EX→St→Prop) (s:St):Qr7 I emb μ x Q .normal s=∃ y,I y∧(∃ ρ,Sub (rl ρ) s (emb y))∧μ y < μ x:=rfl
theorem Qxb {σ:Type} (I:σ→Prop) (emb:σ→St) (μ:σ→Nat) (x:σ) (Q:EX→St→Prop) (s:St):Qr7 I emb μ x Q .ret s=Q .ret s:=rfl
theorem Qr9 {σ:Type} (I:σ→Prop) (emb:σ→St) (μ:σ→Nat) (x:σ) (Q:EX→St→Prop) (i:Nat) (s:St):Qr7 I emb μ x Q (.exit i) s=Q (.exit i) s:=rfl
theorem Xue (gl:Nat→AV) (s:FS) (i:Nat):evT gl s (.t i)=s.T i:=rfl
theorem Xtv (gl:Nat→AV) (s:FS) (v:AV):evT gl s (.c v)=v:=rfl
theorem Xs9 (gl:Nat→AV) (s:FS) (i:Nat):evT gl s (.gl i)=gl i:=rfl
theorem Xjd (gl:Nat→AV) (s:FS):evs gl s []=[]:=rfl
theorem Xfj (gl:Nat→AV) (s:FS) (x:TV) (r:List TV):evs gl s (x::r)=evT gl s x::evs gl s r:=rfl
theorem Qw7 (c:Option Bool) (x y z:AV):Zu c .pick [x,y,z]=(cok c x∧ob c (asB (Qj x)=true→cok none y)∧ob c (asB (Qj x)=false→cok none z)):=rfl
theorem Xhi (c:Option Bool) (l:List AV):Zu c .mv l=Qt c l:=rfl
theorem Xbl (c:Option Bool) (l:List AV):Zu c .not l=Qt c l:=rfl
theorem Xlh (c:Option Bool) (o:BinOp) (k:IntKind) (l:List AV):Zu c (.ar o k) l=Qt c l:=rfl
theorem Xhb (c:Option Bool) (o:BinOp) (k:IntKind) (l:List AV):Zu c (.dv o k) l=Qt c l:=rfl
theorem Xgj (c:Option Bool) (o:BinOp) (k:IntKind) (l:List AV):Zu c (.bt o k) l=Qt c l:=rfl
theorem Xl1 (c:Option Bool) (o:BinOp) (k:IntKind) (l:List AV):Zu c (.sh o k) l=Qt c l:=rfl
theorem Xgr (c:Option Bool) (o:BinOp) (k:IntKind) (l:List AV):Zu c (.cm o k) l=Qt c l:=rfl
theorem Xi1 (c:Option Bool) (ne:Bool) (l:List AV):Zu c (.cB ne) l=Qt c l:=rfl
theorem Xnu (c:Option Bool) (ne:Bool) (l:List AV):Zu c (.cS ne) l=Qt c l:=rfl
theorem Xb2 (c:Option Bool) (l:List AV):Zu c .cat l=Qt c l:=rfl
theorem Xlv (c:Option Bool) (k:IntKind) (l:List AV):Zu c (.cv k) l=Qt c l:=rfl
theorem Xe2 (c:Option Bool) (ty:TY) (off:Nat) (l:List AV):Zu c (.fld ty off) l=Qt c l:=rfl
theorem Xdc (c:Option Bool) (es len:Nat) (ty:TY) (l:List AV):Zu c (.ixA es len ty) l=Qt c l:=rfl
theorem Xcz (c:Option Bool) (l:List AV):Zu c .ixS l=Qt c l:=rfl
theorem Qxl (c:Option Bool) (off:Nat) (l:List AV):Zu c (.fadr off) l=Qt c l:=rfl
theorem Quj (c:Option Bool) (len es:Nat) (l:List AV):Zu c (.iadrA len es) l=Qt c l:=rfl
theorem Qsk (c:Option Bool) (es:Nat) (l:List AV):Zu c (.iadrS es) l=Qt c l:=rfl
theorem Xjg (c:Option Bool) (ty:TY) (l:List AV):Zu c (.ld ty) l=Qt c l:=rfl
theorem Qy6 (c:Option Bool) (l:List AV):Zu c .lenS l=Qt c l:=rfl
theorem Qwu (c:Option Bool) (l:List AV):Zu c .lenL l=Qt c l:=rfl
theorem Qx7 (c:Option Bool) (l:List AV):Zu c .lenM l=Qt c l:=rfl
theorem Xcj (c:Option Bool) (lo hi:Bool) (l:List AV):Zu c (.slS lo hi) l=Qt c l:=rfl
theorem Xck (c:Option Bool) (es:Nat) (lo hi:Bool) (l:List AV):Zu c (.slL es lo hi) l=Qt c l:=rfl
theorem Xe3 (c:Option Bool) (i:Nat) (l:List AV):Zu c (.ext i) l=Qt c l:=rfl
theorem Qv3 (c:Option Bool) (l:List AV):Zu c .nilck l=Qt c l:=rfl
theorem Xbn (c:Option Bool) (z:List AV) (ps:List (Nat × Nat)) (l:List AV):Zu c (.bld z ps) l=Qt c l:=rfl
theorem Xbr (c:Option Bool) (f:FuncId) (l:List AV):Zu c (.mkf f) l=Qt c l:=rfl
theorem Xni (c:Option Bool) (k:IntKind) (l:List AV):Zu c (.mn k) l=Qt c l:=rfl
theorem Xn0 (c:Option Bool) (k:IntKind) (l:List AV):Zu c (.mx k) l=Qt c l:=rfl
theorem Qwy (c:Option Bool) (ne:Bool) (l:List AV):Zu c (.nilP ne) l=Qt c l:=rfl
theorem Xd8 (c:Option Bool) (l:List AV):Zu c .b2s l=Qt c l:=rfl
theorem Xwa (x:AV) (bk:Bk):qv .mv [x] bk=x:=rfl
theorem Xts (x:AV) (bk:Bk):qp .mv [x] bk=True:=by simp[qp]
theorem Xpn (x:AV) (bk:Bk):qv .not [x] bk=.bool (!asB x):=rfl
theorem Xrb (x:AV) (bk:Bk):qp .not [x] bk=isB x:=rfl
theorem Xia (c x y:AV) (bk:Bk):qv .pick [c,x,y] bk=.bool (bif asB c then asB x else asB y):=rfl
theorem Xg4 (c x y:AV) (bk:Bk):qp .pick [c,x,y] bk=(isB c∧(asB c=true→isB x)∧(asB c=false→isB y)):=rfl
theorem Xu4 (o:BinOp) (k:IntKind) (x y:AV) (bk:Bk):qv (.ar o k) [x,y] bk=.int k (k.wrap (arI o (asI x) (asI y))):=rfl
theorem Xx9 (o:BinOp) (k:IntKind) (x y:AV) (bk:Bk):qp (.ar o k) [x,y] bk=(isI k x∧isI k y):=rfl
theorem Xxl (o:BinOp) (k:IntKind) (x y:AV) (bk:Bk):qv (.dv o k) [x,y] bk=.int k (dvI o k (asI x) (asI y)):=rfl
theorem Xvi (o:BinOp) (k:IntKind) (x y:AV) (bk:Bk):qp (.dv o k) [x,y] bk=(isI k x∧isI k y∧asI y≠0):=rfl
theorem Xtn (o:BinOp) (k:IntKind) (x y:AV) (bk:Bk):qv (.bt o k) [x,y] bk=.int k (bits o k (asI x) (asI y)):=rfl
theorem Xtl (o:BinOp) (k:IntKind) (x y:AV) (bk:Bk):qp (.bt o k) [x,y] bk=(isI k x∧isI k y):=rfl
theorem Xx8 (o:BinOp) (k:IntKind) (x y:AV) (bk:Bk):qv (.sh o k) [x,y] bk=.int k (shI o k (asI x) (asI y)):=rfl
theorem Xxf (o:BinOp) (k:IntKind) (x y:AV) (bk:Bk):qp (.sh o k) [x,y] bk=(isI k x∧isN y∧0≤asI y):=rfl
theorem Xtw (o:BinOp) (k:IntKind) (x y:AV) (bk:Bk):qv (.cm o k) [x,y] bk=.bool (cmI o (asI x) (asI y)):=rfl
theorem Xtm (o:BinOp) (k:IntKind) (x y:AV) (bk:Bk):qp (.cm o k) [x,y] bk=(isI k x∧isI k y):=rfl
theorem Xwz (ne:Bool) (x y:AV) (bk:Bk):qv (.cB ne) [x,y] bk=.bool (ne != (asB x == asB y)):=rfl
theorem Xu8 (ne:Bool) (x y:AV) (bk:Bk):qp (.cB ne) [x,y] bk=(isB x∧isB y):=rfl
theorem Xuh (ne:Bool) (x y:AV) (bk:Bk):qv (.cS ne) [x,y] bk=.bool (ne != (asS x == asS y)):=rfl
theorem Xu2 (ne:Bool) (x y:AV) (bk:Bk):qp (.cS ne) [x,y] bk=(isS x∧isS y):=rfl
theorem Xsq (x y:AV) (bk:Bk):qv .cat [x,y] bk=.str (asS x++asS y):=rfl
theorem Xsc (x y:AV) (bk:Bk):qp .cat [x,y] bk=(isS x∧isS y∧(asS x).length + (asS y).length≤9223372036854775807):=rfl
theorem Xx5 (k:IntKind) (x:AV) (bk:Bk):qv (.cv k) [x] bk=.int k (k.wrap (asI x)):=rfl
theorem Xx0 (k:IntKind) (x:AV) (bk:Bk):qp (.cv k) [x] bk=isN x:=rfl
theorem Xqp (ty:TY) (off:Nat) (cs:List AV) (bk:Bk):qv (.fld ty off) [.agg cs] bk=wr ty cs off:=rfl
theorem Xob (ty:TY) (off:Nat) (cs:List AV) (bk:Bk):qp (.fld ty off) [.agg cs] bk=Qah ty cs off:=rfl
theorem Xpg (es len:Nat) (ty:TY) (cs:List AV) (i:AV) (bk:Bk):qv (.ixA es len ty) [.agg cs,i] bk=wr ty cs ((asI i).toNat * es):=rfl
theorem Xqy (es len:Nat) (ty:TY) (cs:List AV) (i:AV) (bk:Bk):qp (.ixA es len ty) [.agg cs,i] bk=(isN i∧0≤asI i∧asI i < len∧Qah ty cs ((asI i).toNat * es)):=rfl
theorem Xp1 (x i:AV) (bk:Bk):qv .ixS [x,i] bk=.int .u8 ((asS x).getD (asI i).toNat 0).toNat:=rfl
theorem Xqo (x i:AV) (bk:Bk):qp .ixS [x,i] bk=(isS x∧isN i∧0≤asI i∧asI i < (asS x).length):=rfl
theorem Xk9 (o b off:Nat) (bk:Bk):qv (.fadr o) [.ptr b off] bk=.ptr b (off + o):=rfl
theorem Xhe (o b off:Nat) (bk:Bk):qp (.fadr o) [.ptr b off] bk=True:=by simp[qp]
theorem Xcf (o off:Nat) (cs:List AV) (bk:Bk):qv (.fadr o) [.xp cs off] bk=.xp cs (off + o):=rfl
theorem Xb5 (o off:Nat) (cs:List AV) (bk:Bk):qp (.fadr o) [.xp cs off] bk=True:=by simp[qp]
theorem Xae (len es b off:Nat) (i:AV) (bk:Bk):qv (.iadrA len es) [.ptr b off,i] bk=.ptr b (off + (asI i).toNat * es):=rfl
theorem Xby (len es b off:Nat) (i:AV) (bk:Bk):qp (.iadrA len es) [.ptr b off,i] bk=(isN i∧0≤asI i∧asI i < len):=rfl
theorem Qy5 (len es off:Nat) (cs:List AV) (i:AV) (bk:Bk):qv (.iadrA len es) [.xp cs off,i] bk=.xp cs (off + (asI i).toNat * es):=rfl
theorem Qxq (len es off:Nat) (cs:List AV) (i:AV) (bk:Bk):qp (.iadrA len es) [.xp cs off,i] bk=(isN i∧0≤asI i∧asI i < len):=rfl
theorem Xai (es es2 b off n c:Nat) (i:AV) (bk:Bk):qv (.iadrS es) [.sl es2 b off n c,i] bk=.ptr b (off + (asI i).toNat * es):=rfl
theorem Xft (es es2 b off n c:Nat) (i:AV) (bk:Bk):qp (.iadrS es) [.sl es2 b off n c,i] bk=(es2=es∧isN i∧0≤asI i∧asI i < n):=rfl
theorem Qxm (es n:Nat) (cs:List AV) (i:AV) (bk:Bk):qv (.iadrS es) [.isl n cs,i] bk=.xp cs ((asI i).toNat * es):=rfl
theorem Qx1 (es n:Nat) (cs:List AV) (i:AV) (bk:Bk):qp (.iadrS es) [.isl n cs,i] bk=(isN i∧0≤asI i∧asI i < n∧(asI i).toNat * es < cs.length):=rfl
theorem Xx1 (ty:TY) (b off:Nat) (cs:List AV):qv (.ld ty) [.ptr b off] (.cells cs)=wr ty cs off:=rfl
theorem Xv7 (ty:TY) (b off:Nat) (cs:List AV):qp (.ld ty) [.ptr b off] (.cells cs)=Qah ty cs off:=rfl
theorem Xqk (ty:TY) (off:Nat) (cs:List AV) (bk:Bk):qv (.ld ty) [.xp cs off] bk=wr ty cs off:=rfl
theorem Xqs (ty:TY) (off:Nat) (cs:List AV) (bk:Bk):qp (.ld ty) [.xp cs off] bk=Qah ty cs off:=rfl
theorem Xiw (x:AV) (bk:Bk):qv .lenS [x] bk=.int .i64 (asS x).length:=rfl
theorem Xnb (x:AV) (bk:Bk):qp .lenS [x] bk=isS x:=rfl
theorem Xc8 (n:Nat) (cs:List AV) (bk:Bk):qv .lenL [.isl n cs] bk=.int .i64 n:=rfl
theorem Xf7 (n:Nat) (cs:List AV) (bk:Bk):qp .lenL [.isl n cs] bk=True:=by simp[qp]
theorem Xd5 (es b o n c:Nat) (bk:Bk):qv .lenL [.sl es b o n c] bk=.int .i64 n:=rfl
theorem Xb7 (es b o n c:Nat) (bk:Bk):qp .lenL [.sl es b o n c] bk=True:=by simp[qp]
theorem Xbz (bk:Bk):qv .lenL [.nils] bk=.int .i64 0:=rfl
theorem Xem (bk:Bk):qp .lenL [.nils] bk=True:=by simp[qp]
theorem Xin (b:Nat) (kvs:List (AV × AV)) (dn:Bool):qv .lenM [.mp b] (.mapb kvs dn)=.int .i64 kvs.length:=rfl
theorem Xlp (b:Nat) (kvs:List (AV × AV)) (dn:Bool):qp .lenM [.mp b] (.mapb kvs dn)=True:=by simp[qp]
theorem Xr3 (lo hi:Bool) (x:AV) (r:List AV) (bk:Bk):qv (.slS lo hi) (x::r) bk=.str (((asS x).drop (Xq lo r).toNat).take ((Zo lo hi (asS x).length r).toNat - (Xq lo r).toNat)):=rfl
theorem Xqz (lo hi:Bool) (x:AV) (r:List AV) (bk:Bk):qp (.slS lo hi) (x::r) bk=(isS x∧Qby lo hi r∧0≤Xq lo r∧Xq lo r≤Zo lo hi (asS x).length r∧Zo lo hi (asS x).length r≤(asS x).length):=rfl
theorem Xgi (es n:Nat) (cs:List AV) (lo hi:Bool) (r:List AV) (bk:Bk):qv (.slL es lo hi) (.isl n cs::r) bk=.isl ((Zo lo hi n r).toNat - (Xq lo r).toNat) ((cs.drop ((Xq lo r).toNat * es)).take (((Zo lo hi n r).toNat - (Xq lo r).toNat) * es)):=rfl
theorem Xiz (es n:Nat) (cs:List AV) (lo hi:Bool) (r:List AV) (bk:Bk):qp (.slL es lo hi) (.isl n cs::r) bk=(Qby lo hi r∧0≤Xq lo r∧Xq lo r≤Zo lo hi n r∧Zo lo hi n r≤n∧cs.length≤n * es):=rfl
theorem Xmr {es es2 b off n c:Nat} {lo hi:Bool} {r:List AV} {bk:Bk} (h:Xq lo r < c):qv (.slL es lo hi) (.sl es2 b off n c::r) bk=.sl es b (off + (Xq lo r).toNat * es) ((Zo lo hi n r).toNat - (Xq lo r).toNat) (c - (Xq lo r).toNat):=if_pos h
theorem Xkt {es es2 b off n c:Nat} {lo hi:Bool} {r:List AV} {bk:Bk} (h:¬ Xq lo r < c):qv (.slL es lo hi) (.sl es2 b off n c::r) bk=.isl 0 []:=if_neg h
theorem Xip (es es2 b off n c:Nat) (lo hi:Bool) (r:List AV) (bk:Bk):qp (.slL es lo hi) (.sl es2 b off n c::r) bk=(es2=es∧Qby lo hi r∧0≤Xq lo r∧Xq lo r≤Zo lo hi n r∧Zo lo hi n r≤c):=rfl
theorem Xro (i:Nat) (vs:List AV) (bk:Bk):qv (.ext i) [.tup vs] bk=vs.getD i .any:=rfl
theorem Xsl (i:Nat) (vs:List AV) (bk:Bk):qp (.ext i) [.tup vs] bk=(i < vs.length):=rfl
theorem Xc0 (b o:Nat) (bk:Bk):qv .nilck [.ptr b o] bk=.ptr b o:=rfl
theorem Xbs (b o:Nat) (bk:Bk):qp .nilck [.ptr b o] bk=True:=by simp[qp]
theorem Qwx (cs:List AV) (o:Nat) (bk:Bk):qv .nilck [.xp cs o] bk=.xp cs o:=rfl
theorem Qxp (cs:List AV) (o:Nat) (bk:Bk):qp .nilck [.xp cs o] bk=True:=by simp[qp]
theorem Xt6 (z:List AV) (ps:List (Nat × Nat)) (vs:List AV) (bk:Bk):qv (.bld z ps) vs bk=.agg (Zp z ps vs):=by rcases vs with _|⟨a,_|⟨b,_|⟨c,_|⟨d,r⟩⟩⟩⟩<;>rfl
theorem Xor (z:List AV) (ps:List (Nat × Nat)) (vs:List AV) (bk:Bk):qp (.bld z ps) vs bk=Yr z.length ps vs:=by rcases vs with _|⟨a,_|⟨b,_|⟨c,_|⟨d,r⟩⟩⟩⟩<;>rfl
theorem Xpa (f:FuncId) (vs:List AV) (bk:Bk):qv (.mkf f) vs bk=.cl f vs:=by rcases vs with _|⟨a,_|⟨b,_|⟨c,_|⟨d,r⟩⟩⟩⟩<;>rfl
theorem Xpu (f:FuncId) (vs:List AV) (bk:Bk):qp (.mkf f) vs bk=True:=by rcases vs with _|⟨a,_|⟨b,_|⟨c,_|⟨d,r⟩⟩⟩⟩<;>simp[qp]
theorem Xw4 (k:IntKind) (x y:AV) (bk:Bk):qv (.mn k) [x,y] bk=.int k (if asI y < asI x then asI y else asI x):=rfl
theorem Xub (k:IntKind) (x y:AV) (bk:Bk):qp (.mn k) [x,y] bk=(isI k x∧isI k y):=rfl
theorem Xtg (k:IntKind) (x y:AV) (bk:Bk):qv (.mx k) [x,y] bk=.int k (if asI y > asI x then asI y else asI x):=rfl
theorem Xx6 (k:IntKind) (x y:AV) (bk:Bk):qp (.mx k) [x,y] bk=(isI k x∧isI k y):=rfl
theorem Xfg (ne:Bool) (bk:Bk):qv (.nilP ne) [.lit (.pointer none)] bk=.bool (!ne):=rfl
theorem Xca (ne:Bool) (bk:Bk):qp (.nilP ne) [.lit (.pointer none)] bk=True:=by simp[qp]
theorem Xcr (ne:Bool) (b o:Nat) (bk:Bk):qv (.nilP ne) [.ptr b o] bk=.bool ne:=rfl
theorem Xcq (ne:Bool) (b o:Nat) (bk:Bk):qp (.nilP ne) [.ptr b o] bk=True:=by simp[qp]
theorem Xfr (ne:Bool) (cs:List AV) (o:Nat) (bk:Bk):qv (.nilP ne) [.xp cs o] bk=.bool ne:=rfl
theorem Xeq (ne:Bool) (cs:List AV) (o:Nat) (bk:Bk):qp (.nilP ne) [.xp cs o] bk=True:=by simp[qp]
theorem Xk7 (bk:Bk):qv .b2s [.nils] bk=.str []:=rfl
theorem Xl8 (bk:Bk):qp .b2s [.nils] bk=True:=by simp[qp]
theorem Xjv (n:Nat) (cs:List AV) (bk:Bk):qv .b2s [.isl n cs] bk=.str (toB (cs.take n)):=rfl
theorem Xg6 (n:Nat) (cs:List AV) (bk:Bk):qp .b2s [.isl n cs] bk=(n≤cs.length∧∀ v ∈ cs.take n,isI .u8 v):=rfl
theorem Xka (es b off n c:Nat) (cs:List AV):qv .b2s [.sl es b off n c] (.cells cs)=.str (toB ((cs.drop off).take n)):=rfl
theorem Xjq (es b off n c:Nat) (cs:List AV):qp .b2s [.sl es b off n c] (.cells cs)=(es=1∧off + n≤cs.length∧∀ v ∈ (cs.drop off).take n,isI .u8 v):=rfl
theorem Xj2 (x y:Int):arI .add x y=x + y:=rfl
theorem Xkb (x y:Int):arI .sub x y=x - y:=rfl
theorem Xhc (x y:Int):arI .mul x y=x * y:=rfl
theorem Xhp (x y:Int):cmI .eql x y=(x == y):=rfl
theorem Xkq (x y:Int):cmI .neq x y=(x != y):=rfl
theorem Xk0 (x y:Int):cmI .lss x y=decide (x < y):=rfl
theorem Xl3 (x y:Int):cmI .leq x y=decide (x≤y):=rfl
theorem Xo1 (x y:Int):cmI .gtr x y=decide (y < x):=rfl
theorem Xkw (x y:Int):cmI .geq x y=decide (y≤x):=rfl
theorem Xmz (k:IntKind) (x y:Int):dvI .quo k x y=k.wrap (x.tdiv y):=rfl
theorem Xk1 (k:IntKind) (x y:Int):dvI .rem k x y=x.tmod y:=rfl
theorem Xjr (k:IntKind) (x y:Int):shI .shl k x y=k.wrap (x * 2 ^ min y.toNat k.bits):=rfl
theorem Xk2 (k:IntKind) (x y:Int):shI .shr k x y=x.fdiv (2 ^ min y.toNat k.bits):=rfl
theorem Xn9 (r:List AV):Xq false r=0:=by cases r<;>rfl
theorem Xbh (x:AV) (r:List AV):Xq true (x::r)=asI x:=rfl
theorem Xj1 (lo:Bool) (n:Nat) (r:List AV):Zo lo false n r=n:=by rcases r with _|⟨a,_|⟨b,_|⟨d,r⟩⟩⟩<;>simp[Zo]
theorem Xfn (n:Nat) (x:AV):Zo false true n [x]=asI x:=rfl
theorem Xdr (n:Nat) (x y:AV):Zo true true n [x,y]=asI y:=rfl
theorem Xfh:Qby false false []=True:=by simp[Qby]
theorem Xg3 (x:AV):Qby true false [x]=isI .i64 x:=by simp[Qby]
theorem Xk4 (x:AV):Qby false true [x]=isI .i64 x:=by simp[Qby]
theorem Xcm (x y:AV):Qby true true [x,y]=(isI .i64 x∧isI .i64 y):=by simp[Qby]
theorem Xbx (z:List AV) (q m:Nat) (ps:List (Nat × Nat)) (r:List AV) (k:IntKind) (n:Int):Zp z ((q,m)::ps) ((.int k n)::r)=Zp (z.set q (.int k n)) ps r:=rfl
theorem Qwf (n1 q m:Nat) (ps:List (Nat × Nat)) (r:List AV) (k:IntKind) (n:Int):Yr n1 ((q,m)::ps) ((.int k n)::r)=(one (.int k n)∧m=1∧q < n1∧Yr n1 ps r):=rfl
theorem Qvz (z:List AV) (q m:Nat) (ps:List (Nat × Nat)) (r:List AV) (b:Bool):Zp z ((q,m)::ps) ((.bool b)::r)=Zp (z.set q (.bool b)) ps r:=rfl
theorem Qsa (n1 q m:Nat) (ps:List (Nat × Nat)) (r:List AV) (b:Bool):Yr n1 ((q,m)::ps) ((.bool b)::r)=(one (.bool b)∧m=1∧q < n1∧Yr n1 ps r):=rfl
theorem Xfx (z:List AV) (q m:Nat) (ps:List (Nat × Nat)) (r:List AV) (l:List UInt8):Zp z ((q,m)::ps) ((.str l)::r)=Zp (z.set q (.str l)) ps r:=rfl
theorem Qwr (n1 q m:Nat) (ps:List (Nat × Nat)) (r:List AV) (l:List UInt8):Yr n1 ((q,m)::ps) ((.str l)::r)=(one (.str l)∧m=1∧q < n1∧Yr n1 ps r):=rfl
theorem Xb8 (z:List AV) (o m:Nat) (ps:List (Nat × Nat)) (cs r:List AV):Zp z ((o,m)::ps) (.agg cs::r)=Zp (Ym z o cs) ps r:=rfl
theorem Qxk (n o m:Nat) (ps:List (Nat × Nat)) (cs r:List AV):Yr n ((o,m)::ps) (.agg cs::r)=(cs.length=m∧o + m≤n∧Yr n ps r):=rfl
theorem Xeb (z:List AV) (q m:Nat) (ps:List (Nat × Nat)) (r:List AV) (b o:Nat):Zp z ((q,m)::ps) ((.ptr b o)::r)=Zp (z.set q (.ptr b o)) ps r:=rfl
theorem Qxa (n1 q m:Nat) (ps:List (Nat × Nat)) (r:List AV) (b o:Nat):Yr n1 ((q,m)::ps) ((.ptr b o)::r)=(one (.ptr b o)∧m=1∧q < n1∧Yr n1 ps r):=rfl
theorem Xjz (z:List AV) (q m:Nat) (ps:List (Nat × Nat)) (r:List AV) (cs:List AV) (o:Nat):Zp z ((q,m)::ps) ((.xp cs o)::r)=Zp (z.set q (.xp cs o)) ps r:=rfl
theorem Xdq (n1 q m:Nat) (ps:List (Nat × Nat)) (r:List AV) (cs:List AV) (o:Nat):Yr n1 ((q,m)::ps) ((.xp cs o)::r)=(one (.xp cs o)∧m=1∧q < n1∧Yr n1 ps r):=rfl
theorem Xiq (z:List AV) (q m:Nat) (ps:List (Nat × Nat)) (r:List AV) (es b o n c:Nat):Zp z ((q,m)::ps) ((.sl es b o n c)::r)=Zp (z.set q (.sl es b o n c)) ps r:=rfl
theorem Xf8 (n1 q m:Nat) (ps:List (Nat × Nat)) (r:List AV) (es b o n c:Nat):Yr n1 ((q,m)::ps) ((.sl es b o n c)::r)=(one (.sl es b o n c)∧m=1∧q < n1∧Yr n1 ps r):=rfl
theorem Xcx (z:List AV) (q m:Nat) (ps:List (Nat × Nat)) (r:List AV) (n:Nat) (cs:List AV):Zp z ((q,m)::ps) ((.isl n cs)::r)=Zp (z.set q (.isl n cs)) ps r:=rfl
theorem Qwd (n1 q m:Nat) (ps:List (Nat × Nat)) (r:List AV) (n:Nat) (cs:List AV):Yr n1 ((q,m)::ps) ((.isl n cs)::r)=(one (.isl n cs)∧m=1∧q < n1∧Yr n1 ps r):=rfl
theorem Qy3 (z:List AV) (q m:Nat) (ps:List (Nat × Nat)) (r:List AV):Zp z ((q,m)::ps) (.nils::r)=Zp (z.set q .nils) ps r:=rfl
theorem Qrp (n1 q m:Nat) (ps:List (Nat × Nat)) (r:List AV):Yr n1 ((q,m)::ps) (.nils::r)=(one .nils∧m=1∧q < n1∧Yr n1 ps r):=rfl
theorem Xkp (z:List AV) (q m:Nat) (ps:List (Nat × Nat)) (r:List AV) (f:FuncId) (cs:List AV):Zp z ((q,m)::ps) ((.cl f cs)::r)=Zp (z.set q (.cl f cs)) ps r:=rfl
theorem Xaa (n1 q m:Nat) (ps:List (Nat × Nat)) (r:List AV) (f:FuncId) (cs:List AV):Yr n1 ((q,m)::ps) ((.cl f cs)::r)=(one (.cl f cs)∧m=1∧q < n1∧Yr n1 ps r):=rfl
theorem Xmc (z:List AV) (q m:Nat) (ps:List (Nat × Nat)) (r:List AV) (b:Nat):Zp z ((q,m)::ps) ((.mp b)::r)=Zp (z.set q (.mp b)) ps r:=rfl
theorem Xbo (n1 q m:Nat) (ps:List (Nat × Nat)) (r:List AV) (b:Nat):Yr n1 ((q,m)::ps) ((.mp b)::r)=(one (.mp b)∧m=1∧q < n1∧Yr n1 ps r):=rfl
theorem Xg1 (z:List AV) (q m:Nat) (ps:List (Nat × Nat)) (r:List AV) (v:Value):Zp z ((q,m)::ps) ((.lit v)::r)=Zp (z.set q (.lit v)) ps r:=rfl
theorem Qx5 (n1 q m:Nat) (ps:List (Nat × Nat)) (r:List AV) (v:Value):Yr n1 ((q,m)::ps) ((.lit v)::r)=(one (.lit v)∧m=1∧q < n1∧Yr n1 ps r):=rfl
theorem Xds (z:List AV):Zp z [] []=z:=rfl
theorem Qwt (n:Nat):Yr n [] []=True:=by simp[Yr]
attribute [go_sem] Yb6 Ybk Xc3 Xxy Ybf Yad Yaf Xzb Ya5 Xyq Ybd Ya8 Yaa Xxw Yax Xvu Xy5 Xxg Xzi Xr7 Xx4 Xtx Xym Qx8 Xk3 Xpj qOk Qgq St.put St.putB St.nw St.putO Qga Qw4 Xrp Xaf Qt Qaf Wt Xj gdT Qe6 Yk nmAll Qw Qdj Qdh nmB Xf rens Sub Xnh Xfz Xz1 Xzp Qsg Xyh Xz0 Xth cond_true cond_false true_and and_true List.map_cons List.map_nil List.cons_append List.nil_append Option.toList_some Option.toList_none List.getD_cons_zero List.getD_cons_succ List.set_cons_zero List.set_cons_succ List.take_succ_cons List.take_zero List.drop_succ_cons List.drop_zero List.length_cons List.length_nil Nat.zero_add Nat.add_zero Bool.and_true Bool.true_and Bool.and_false Bool.false_and Bool.or_true Bool.true_or Bool.or_false Bool.false_or Bool.not_true Bool.not_false Bool.not_not forall_const implies_true true_implies Bool.false_eq_true false_implies imp_self Qy7 Xki Qte Xd1 Xdf Xjs Xk5 Xfq Qv9 Xev Xnw Qsl Xbv Qql Qxe Qxv Xfs Xfo Qwl Qqt Qwp Xcu Qx9 Xj0 Qso Xac Xfc Xla Xlk Xab Qtg Xde Xmx Qwa Xgl Xb6 Xkz Qvo Qwn Xmi Qru Xdz Xat Qsc Qxo Xm3 Qv1 Xar Xd0 Xke Xh7 Xak Xbp Xsb Qwq Xh6 Xma Xsv Xq7 Xmk Qxd Xdj Xo9 Qy2 Xhr Xol Xrq Xi7 Qwz Xkn Qul Xap Xf2 Xnm Xnf Xe6 Qur Qu7 Xb4 Qqw Qxz Qxu Xff Xcg Qws Qqj Qy4 Xer Xau Xsf Qxy Xj4 Xja Xqi Xop Xmh Qw2 Xf1 Xsr Qy0 Xi5 Xms Xoa Xpt Xmv Qyf Xgg Qs5 Xcv Xav Xij Qt2 Xfp Xgt Qy8 Xig Qtn Xd3 Xfb Xj9 Qvf Xci Xii Qxs Xgp Qvh Xjj Xay Xlt Xdw Xcp Xe1 Qv8 Qwc Qw5 Qvb Xao Qw3 Qya Xis Xbu Xlr Xh2 Xiv Xdb Xh9 Xgo Xhv Xik Xih Xk8 Xha Xey Xn8 Xcw Xb0 Qw9 Xg2 Xkh Xfe Xkm Xix Xje Xep Xm1 Xjw Xwc Xvj Xmu Xkf Xn7 Xht Xfl Xdm Xdd Qqr Xe7 Xcs Qpb Xzx Xj7 Xgx Qye Xbc Ql8 Qx6 Xpx Xm5 Xnd Xju Xsu Xhl Xlo Xof Xon Xsa Xcb Xan Xmw Xag Xmo Xe9 Xhz Xkg Xfu Xp4 Qxf Qx0 Qqs Xi4 Xn4 Qxj Qow Qvr Qmk Qse Qqx Qoz Qxb Qr9 Xue Xtv Xs9 Xjd Xfj Qw7 Xhi Xbl Xlh Xhb Xgj Xl1 Xgr Xi1 Xnu Xb2 Xlv Xe2 Xdc Xcz Qxl Quj Qsk Xjg Qy6 Qwu Qx7 Xcj Xck Xe3 Qv3 Xbn Xbr Xni Xn0 Qwy Xd8 Xwa Xts Xpn Xrb Xia Xg4 Xu4 Xx9 Xxl Xvi Xtn Xtl Xx8 Xxf Xtw Xtm Xwz Xu8 Xuh Xu2 Xsq Xsc Xx5 Xx0 Xqp Xob Xpg Xqy Xp1 Xqo Xk9 Xhe Xcf Xb5 Xae Xby Qy5 Qxq Xai Xft Qxm Qx1 Xx1 Xv7 Xqk Xqs Xiw Xnb Xc8 Xf7 Xd5 Xb7 Xbz Xem Xin Xlp Xr3 Xqz Xgi Xiz Xmr Xkt Xip Xro Xsl Xc0 Xbs Qwx Qxp Xt6 Xor Xpa Xpu Xw4 Xub Xtg Xx6 Xfg Xca Xcr Xcq Xfr Xeq Xk7 Xl8 Xjv Xg6 Xka Xjq Xj2 Xkb Xhc Xhp Xkq Xk0 Xl3 Xo1 Xkw Xmz Xk1 Xjr Xk2 Xn9 Xbh Xj1 Xfn Xdr Xfh Xg3 Xk4 Xcm Xbx Qwf Qvz Qsa Xfx Qwr Xb8 Qxk Xeb Qxa Xjz Xdq Xiq Xf8 Xcx Qwd Qy3 Qrp Xkp Xaa Xmc Xbo Xg1 Qx5 Xds Qwt
def Qp (l:List Int):List AV:=l.map (.int .i64)
def Yv (l:List Bool):List AV:=l.map .bool
def Xk (l:List UInt8):List AV:=l.map fun (b:UInt8)=>.int .u8 b.toNat
theorem Xw (l:List Int):(Qp l).length=l.length:=by simp[Qp]
theorem Xic (l:List Bool):(Yv l).length=l.length:=by simp[Yv]
theorem Quh (l:List UInt8):(Xk l).length=l.length:=by simp[Xk]
theorem Qdy {l:List Int} {i:Nat} (h:i < l.length):(Qp l).getD i .any=.int .i64 (l.getD i 0):=by simp[Qp,List.getD,h]
theorem Qjh {l:List Bool} {i:Nat} (h:i < l.length):(Yv l).getD i .any=.bool (l.getD i false):=by simp[Yv,List.getD,h]
theorem Qry {l:List UInt8} {i:Nat} (h:i < l.length):(Xk l).getD i .any=.int .u8 (l.getD i 0).toNat:=by simp[Xk,List.getD,h]
theorem Xls (l:List Int) (n:Nat):(Qp l).take n=Qp (l.take n):=by simp[Qp,List.map_take]
theorem Xkr (l:List Int) (n:Nat):(Qp l).drop n=Qp (l.drop n):=by simp[Qp,List.map_drop]
theorem Xgc (l:List UInt8) (n:Nat):(Xk l).take n=Xk (l.take n):=by simp[Xk,List.map_take]
theorem Xio (l:List UInt8) (n:Nat):(Xk l).drop n=Xk (l.drop n):=by simp[Xk,List.map_drop]
theorem Xdy (l:List Bool) (n:Nat):(Yv l).take n=Yv (l.take n):=by simp[Yv,List.map_take]
theorem Xce (l:List Bool) (n:Nat):(Yv l).drop n=Yv (l.drop n):=by simp[Yv,List.map_drop]
theorem Xt0 (l m:List Int):Qp l++Qp m=Qp (l++m):=by simp[Qp]
theorem Xq8 (l m:List UInt8):Xk l++Xk m=Xk (l++m):=by simp[Xk]
theorem Xlx {α:Type} {l:List α} {b j:Nat} {d:α} (h:j < b):(l.take b).getD j d=l.getD j d:=by simp only[List.getD,List.getElem?_take,if_pos h]
theorem Xnj {α:Type} {l:List α} {a j:Nat} {d:α}:(l.drop a).getD j d=l.getD (a + j) d:=by simp only[List.getD,List.getElem?_drop]
theorem Qbk {α:Type} {l:List α} {i j:Nat} {v d:α} (h:i < l.length):(l.set i v).getD j d=if i=j then v else l.getD j d:=by
 simp only[List.getD,List.getElem?_set]
 split
 ·next e=>subst e;simp[h]
 ·rfl
theorem Xqn {α:Type} {l:List α} {n:Nat} (h:l.length≤n):l.take n=l:=List.take_of_length_le h
theorem Xdx {l r:List AV} {i:Nat} (h:i < l.length):(l++r).getD i .any=l.getD i .any:=by simp only[List.getD];rw[List.getElem?_append_left h]
theorem Xm9 {l r:List AV} {i:Nat} {v:AV} (h:i < l.length):(l++r).set i v=l.set i v++r:=by rw[List.set_append,if_pos h]
theorem Xxr (b:Bool):(b=false→(!b)=true)=True:=by cases b<;>simp
theorem Xuy (b:Bool):((!b)=true→b=false)=True:=by cases b<;>simp
theorem Qcx (ρ:Nat→Nat) (l:List Int):rens ρ (Qp l)=Qp l:=by rw[Yf];simp[Qp,ren]
theorem Xnv (ρ:Nat→Nat) (l:List UInt8):rens ρ (Xk l)=Xk l:=by rw[Yf];simp[Xk,ren]
theorem Qnw (ρ:Nat→Nat) (l:List Bool):rens ρ (Yv l)=Yv l:=by rw[Yf];simp[Yv,ren]
theorem Qfv (ρ:Nat→Nat) (l m:List AV):rens ρ (l++m)=rens ρ l++rens ρ m:=by simp[Yf]
theorem Xql (l:List Int) (i:Nat) (n:Int):(Qp l).set i (.int .i64 n)=Qp (l.set i n):=by simp[Qp,List.map_set]
theorem Xlb (l:List Bool) (i:Nat) (n:Bool):(Yv l).set i (.bool n)=Yv (l.set i n):=by simp[Yv,List.map_set]
theorem Qzb {l:List AV} {a b j:Nat} (h:j < b):((l.drop a).take b).getD j .any=l.getD (a + j) .any:=by simp only[List.getD,List.getElem?_take,List.getElem?_drop,if_pos h]
theorem Xrm {l:List AV} {b j:Nat} (h:j < b):(l.take b).getD j .any=l.getD j .any:=by simp only[List.getD,List.getElem?_take,if_pos h]
theorem Xp0 {l:List AV} {a j:Nat}:(l.drop a).getD j .any=l.getD (a + j) .any:=by simp only[List.getD,List.getElem?_drop]
theorem Xvl {l:List AV} {a b:Nat} (h:a + b≤l.length):((l.drop a).take b).length=b:=by simp;omega
theorem Xps {l:List AV} {b:Nat} (h:b≤l.length):(l.take b).length=b:=by simp;omega
theorem Xny {cs vs:List AV} (h:cs.length=vs.length):Ym cs 0 vs=vs:=by unfold Ym;simp[h]
theorem Xr9 (cs:List AV) (o:Nat):Ym cs o []=cs:=by unfold Ym;simp
theorem Xme (c v:AV) (cs vs:List AV):Ym (c::cs) 0 (v::vs)=v::Ym cs 0 vs:=by unfold Ym;simp
theorem Xlf (c:AV) (cs vs:List AV) (o:Nat):Ym (c::cs) (o + 1) vs=c::Ym cs o vs:=by unfold Ym;simp[Nat.add_right_comm]
theorem Xg7 {cs vs:List AV} {o:Nat} (h:o + vs.length≤cs.length):(Ym cs o vs).length=cs.length:=by unfold Ym;simp;omega
theorem Qku (n:Nat) (l:List Int):nmAll n (Qp l)=True:=eq_true (Xi.2 fun x hx=>by simp[Qp]at hx;obtain ⟨a,_,rfl⟩:=hx;simp[Qe])
theorem Qst (n:Nat) (l:List Bool):nmAll n (Yv l)=True:=eq_true (Xi.2 fun x hx=>by simp[Yv]at hx;rcases hx with ⟨_,rfl⟩|⟨_,rfl⟩<;>simp[Qe])
theorem Xuv (n:Nat) (l:List UInt8):nmAll n (Xk l)=True:=eq_true (Xi.2 fun x hx=>by simp[Xk]at hx;obtain ⟨a,_,rfl⟩:=hx;simp[Qe])
theorem Qk1 (n:Nat) (l m:List AV):nmAll n (l++m)=(nmAll n l∧nmAll n m):=by simp only[Xi,List.mem_append,eq_iff_iff];exact ⟨fun h=>⟨fun x hx=>h x (.inl hx),fun x hx=>h x (.inr hx)⟩,fun h x hx=>hx.elim (h.1 x) (h.2 x)⟩
theorem Xo4 (l:List UInt8):toB (Xk l)=l:=by
 simp only[toB,Xk,List.map_map]
 conv=>rhs;rw[← List.map_id l]
 refine List.map_congr_left fun b _=>?_
 simp[asI]
theorem Xui (l:List UInt8):∀ v ∈ Xk l,isI .u8 v:=fun v hv=>by simp[Xk]at hv;obtain ⟨a,_,rfl⟩:=hv;simp[isI]
theorem Xqg (l:List UInt8):(∀ v ∈ Xk l,isI .u8 v)=True:=eq_true (Xui l)
theorem Qm1 (s:FS) (l:List Int):(Qp l).map (Yi s)=Qp l:=by simp[Qp,Yi]
theorem Qpi (s:FS) (l:List Bool):(Yv l).map (Yi s)=Yv l:=by simp[Yv,Yi]
theorem wrap_i64 {n:Int} (h0:-9223372036854775808≤n) (h1:n < 9223372036854775808):IntKind.i64.wrap n=n:=by rw[IntKind.wrap_i64];omega
theorem wrap_u32 {n:Int} (h0:0≤n) (h1:n < 4294967296):IntKind.u32.wrap n=n:=by rw[IntKind.wrap_u32];omega
theorem wrap_u8 {n:Int} (h0:0≤n) (h1:n < 256):IntKind.u8.wrap n=n:=by rw[IntKind.wrap_u8];omega
theorem Xsg {n:Int} (h0:0≤n) (h1:n < 18446744073709551616):IntKind.u64.wrap n=n:=by simp[IntKind.wrap,IntKind.bits,IntKind.signed];omega
theorem Ya6:((0:Nat):Int)=0:=rfl
theorem Ya4 (n:Nat):((no_index (OfNat.ofNat n):Nat):Int)=OfNat.ofNat n:=rfl
theorem Yau {P:Program} {c:Cx} {Q:EX→St→Prop} {s:St} {x:TV} {a b:TC} {t:Bool} (h:evT c.gl s.fs x=.bool t) (ht:t=true→xw P c a Q s) (hf:t=false→xw P c b Q s):xw P c (.cond x a b) Q s:=by
 rw[Xuq,h]
 exact ⟨trivial,ht,hf⟩
attribute [go_sem] Xw Xic Quh Qdy Qjh Qry Xls Xkr Xgc Xio Xdy Xce Xlx Xnj Xdx Xm9 Xqn Xxr Xuy Qcx Xnv Qnw Qfv List.take_take Nat.min_self Nat.mul_one Nat.one_mul Xql Xlb Qzb Xrm Xp0 Xvl Xps Xny Xr9 Xme Xlf Xg7 Qku Qst Xuv Qk1 Xo4 Xqg Qm1 Qpi wrap_i64 wrap_u32 wrap_u8 Xsg Int.toNat_natCast Ya6 Ya4 AV.int.injEq AV.bool.injEq AV.str.injEq AV.agg.injEq AV.tup.injEq AV.isl.injEq AV.sl.injEq AV.ptr.injEq AV.xp.injEq Bk.cells.injEq
section
variable {P:Program}
def Qae (P:Program) (c:Cx) (k:PK) (vs:List AV) (r:AV):Prop :=
 ∀ (o:Oper) (ys:List Operand),Xy P o=some (k,ys)→∀ (g:Nat→GM) (W:Nat→Prop) (a:Act) (w:World),(∀ i,W i→i < w.heap.size)→(∀ i,VR (fun _=>.un) W w (c.gl i) (.pointer (some ⟨i,0,none⟩)))→VRs g W w vs (ys.map a.eval) →
  ∀ (K:Act→World→Prop) (Q:Exit→Act→World→Prop),(∀ v w',Fr w w' (fun _=>False)→VR g W w' r v→K (a.put o.dst v) w')→o.wp P a w K Q
theorem Qpl {c:Cx} {s:St} {d:Option Nat} {k:PK} {xs:List TV} {gd:Option (Nat × Bool)} {args:List AV} {r:AV} (hok:Wt c.gl s.fs xs gd) (hargs:(evs c.gl s.fs xs).map Qj=args)
  (hq:ob (gB s.fs gd) (Qae P c k args r)):Kj P c (.pd d k xs gd) s.fs (Yk d xs gd) (s.putO d (cw (gB s.fs gd) r)).fs:=by
 intro ops io he
 obtain ⟨hgd,hdst,hd,ys,hel,rfl⟩:=Zd he
 have hput:(s.putO d (cw (gB s.fs gd) r)).fs=match d with|some d=>s.fs.put d (cw (gB s.fs gd) r)|none=>s.fs:=by
  cases d with
  | none=>rfl
  | some d=>exact St.fs_put _ _ _
 rw[hput]
 refine ⟨fun i hi=>?_,fun b _=>by cases d<;>rfl,?_⟩
 ·cases d with
  | none=>rfl
  | some d=>show (s.fs.put d _).T i=_;rw[FS.T_put,if_neg (fun e=>hi (by simp[Yk,e]))]
 ·intro s2 hT hH g a w hR K Q' hK
  have hevs:evs c.gl s2 (ys.map tvO)=evs c.gl s.fs (ys.map tvO):=Ye fun i hi=>hT i (by simp[Yk,hi])
  have hg:∀ t b,gd=some (t,b)→s2.T t=s.fs.T t:=fun t b e=>hT t (by simp[Yk,e,gdT])
  have hgB:gB s2 gd=gB s.fs gd:=by
   cases gd with
   | none=>rfl
   | some p=>obtain ⟨t,b⟩:=p;simp only[gB,hg t b rfl]
  have hgO:gOk s2 gd:=by
   have:=hok.1
   cases gd with
   | none=>exact this
   | some p=>obtain ⟨t,b⟩:=p;simpa only[gOk,hg t b rfl] using this
  have hK':∀ v w',Fr w w' (fun _=>False)→VR g (Qn c g s2) w' (cw (gB s.fs gd) r) v→K (a.put io.dst v) w':=fun v w' hf hv=>by
   rw[hdst]
   have hR':=hR.grow hf
   cases d with
   | none =>
    refine hK g _ w' ?_
    have:ovr s2 s.fs (Yk none (ys.map tvO) gd)=s2:=by unfold ovr Yk;simp
    simp only[this];exact hR'
   | some d =>
    refine hK g _ w' ?_
    show R c g (ovr s2 (s.fs.put d _) ⟨gdT gd++Xj (ys.map tvO),[],[d],[]⟩) _ _
    rw[Qdo]
    exact hR'.put (by simpa using hd) hv
  unfold Qan
  rw[Qb9 hgd hR hgO,hgB]
  have run:(∀ b,gB s.fs gd=some b→b=true)→io.wp P a w K Q':=by
   intro hb
   have hc1:Qt none (evs c.gl s2 (ys.map tvO)):=by
    rw[hevs]
    have:=hok.2
    cases hgb:gB s.fs gd with
    | none=>rw[hgb]at this;exact this
    | some b=>rw[hgb]at this;exact Qaw (hb b hgb) this
   have hq':Qae P c k args r:=by
    cases hgb:gB s.fs gd with
    | none=>rw[hgb]at hq;exact hq
    | some b=>rw[hgb]at hq;exact hq (hb b hgb)
   have hv:=Yh (hR.evs ys) hc1
   rw[hevs,hargs]at hv
   have hX:∀ k,Qn c g s2 k→k < w.heap.size:=by
    rintro k (h|⟨b',hl,hg'⟩)
    ·have:=(hR.xs k h).1;have:=hR.fr.size;omega
    ·exact BR.lt (hg' ▸ hR.h b') hl
   refine hq' io ys hel g _ a w hX (fun i=>(hR.gl i)) hv K Q' fun v w' hf hv2=>?_
   refine hK' v w' hf ?_
   cases hgb:gB s.fs gd with
   | none=>exact hv2
   | some b=>exact .cnd (fun _=>hv2) fun h=>by rw[hb b hgb]at h;cases h
  cases hgb:gB s.fs gd with
  | none=>simp only[Option.getD_none,if_true];exact run fun b h=>by rw[hgb]at h;cases h
  | some b =>
   cases b with
   | true=>simp only[Option.getD_some,if_true];exact run fun b h=>by rw[hgb]at h;cases h;rfl
   | false =>
    simp only[Option.getD_some,Bool.false_eq_true,if_false]
    refine hK' undef w (Fr.refl _ _) ?_
    rw[hgb]
    exact .cnd (fun h=>by cases h) fun _=>rfl
theorem Xwl {c:Cx} {r0:List TOp} {K:St→Prop} {s:St} {d:Option Nat} {k:PK} {xs:List TV} {gd:Option (Nat × Bool)} {args:List AV} {r:AV} (hq:ob (gB s.fs gd) (Qae P c k args r)) (hargs:(evs c.gl s.fs xs).map Qj=args)
  (hok:Wt c.gl s.fs xs gd∧XP P c r0 K (s.putO d (cw (gB s.fs gd) r))):Yc P c (.pd d k xs gd) r0 K s :=
 .inl ⟨_,_,Qpl hok.1 hargs hq,hok.2⟩
theorem Xod {c:Cx} {anc:List Nat} {fs:List Foot} {r0:List TOp} {K:St→Prop} {s:St} {d:Option Nat} {k:PK} {xs:List TV} {gd:Option (Nat × Bool)} {args:List AV} {r:AV} (hq:ob (gB s.fs gd) (Qae P c k args r)) (hargs:(evs c.gl s.fs xs).map Qj=args)
  (hok:Wt c.gl s.fs xs gd∧XD P c anc r0 (Yk d xs gd::fs) K (s.putO d (cw (gB s.fs gd) r))):Za P c anc (.pd d k xs gd) r0 fs K s :=
 ⟨_,_,Qpl hok.1 hargs hq,hok.2⟩
theorem Qhk {o:Option Bool} {p:Prop} (h:p):ob o p:=by cases o<;>first|exact h|exact fun _=>h
theorem Yq {c:Cx} {r0:List TOp} {K:St→Prop} {s:St} {d:Option Nat} {f:FuncId} {xs:List TV} {gd:Option (Nat × Bool)} {args:List AV} {r:AV} (hargs:(evs c.gl s.fs xs).map Qj=args) (hps:PS P c.gl f args r)
  (hok:Wt c.gl s.fs xs gd∧nmAll 0 args∧XP P c r0 K (s.putO d (cw (gB s.fs gd) r))):Yc P c (.pd d (.call f) xs gd) r0 K s:=Ya9 (Qhk hps) hargs hok
theorem Ya {c:Cx} {anc:List Nat} {fs:List Foot} {r0:List TOp} {K:St→Prop} {s:St} {d:Option Nat} {f:FuncId} {xs:List TV} {gd:Option (Nat × Bool)} {args:List AV} {r:AV} (hargs:(evs c.gl s.fs xs).map Qj=args) (hps:PS P c.gl f args r)
  (hok:Wt c.gl s.fs xs gd∧nmAll 0 args∧XD P c anc r0 (Yk d xs gd::fs) K (s.putO d (cw (gB s.fs gd) r))):Za P c anc (.pd d (.call f) xs gd) r0 fs K s:=Xz8 (Qhk hps) hargs hok
theorem Xs {c:Cx} {r0:List TOp} {K:St→Prop} {s:St} {d:Option Nat} {k:PK} {xs:List TV} {gd:Option (Nat × Bool)} {args:List AV} {r:AV} (hargs:(evs c.gl s.fs xs).map Qj=args) (hq:Qae P c k args r)
  (hok:Wt c.gl s.fs xs gd∧XP P c r0 K (s.putO d (cw (gB s.fs gd) r))):Yc P c (.pd d k xs gd) r0 K s:=Xwl (Qhk hq) hargs hok
theorem Xm {c:Cx} {anc:List Nat} {fs:List Foot} {r0:List TOp} {K:St→Prop} {s:St} {d:Option Nat} {k:PK} {xs:List TV} {gd:Option (Nat × Bool)} {args:List AV} {r:AV} (hargs:(evs c.gl s.fs xs).map Qj=args) (hq:Qae P c k args r)
  (hok:Wt c.gl s.fs xs gd∧XD P c anc r0 (Yk d xs gd::fs) K (s.putO d (cw (gB s.fs gd) r))):Za P c anc (.pd d k xs gd) r0 fs K s:=Xod (Qhk hq) hargs hok
def Qkp (rec:TypeId→Option (List SK)) (P:Program):Nat→List Field→Option (List SK)
 | _,[]=>some []
 | o, f :: fs => if f.name = "_" ∨ f.offset ≠ o ∨ (P.info? f.type).isNone then none else (rec f.type).bind fun ks => if P.cellsOf f.type = ks.length then (Qkp rec P (o + ks.length) fs).map (ks ++ ·) else none
def Um (P:Program):Nat→TypeId→Option (List SK)
 | 0,_=>none
 | d + 1,t=>match P.underlying t with
  | some .bool=>some [.bool]
  | some (.int k)=>some [.int k]
  | some .string=>some [.str]
  | some (.struct fs)=>if P.stoodInHeld t then none else Qkp (Um P d) P 0 fs.toList
  | some (.array n e)=>if (P.info? e).isNone then none else (Um P d e).bind fun ks=>if P.cellsOf e=ks.length then some (List.replicate n ks).flatten else none
  | _=>none
def Qjc:SK→Value→Value→Bool
 | .int _,.int _ a,.int _ b=>a == b
 | .bool,.bool a,.bool b=>a == b
 | .str,.string a,.string b=>a.toList == b.toList
 | _,_,_=>true
def Xyt:SK→Value→Prop
 | .int k,v=>∃ n,v=.int k n
 | .bool,v=>∃ b,v=.bool b
 | .str,v=>∃ b,v=.string b
 | .ref,_=>False
def Je:List SK→List Value→List Value→Bool
 | k::ks,u::us,v::vs=>Qjc k u v && Je ks us vs
 | _,_,_=>true
def Ug:List SK→List Value→Prop
 | k::ks,u::us=>Xyt k u∧Ug ks us
 | [],_=>True
 | _::_,[]=>False
theorem Qa6:∀ (ks ls:List SK) (us:List Value),Ug (ks++ls) us→Ug ks us∧Ug ls (us.drop ks.length)
 | [],_,us,h=>⟨by cases us<;>trivial,by simpa using h⟩
 | _::ks,ls,[],h=>h.elim
 | _::ks,ls,_::us,h=>⟨⟨h.1,(Qa6 ks ls us h.2).1⟩,by simpa using (Qa6 ks ls us h.2).2⟩
theorem Qa8:∀ (ks:List SK) (us:List Value),Ug ks us→ks.length≤us.length
 | [],_,_=>by simp
 | _::_,[],h=>h.elim
 | _::ks,_::us,h=>by have:=Qa8 ks us h.2;simp;omega
theorem Qiy:∀ (ks ls:List SK) (us vs:List Value),ks.length≤us.length→ks.length≤vs.length→Je (ks++ls) us vs=(Je ks us vs && Je ls (us.drop ks.length) (vs.drop ks.length))
 | [],_,_,_,_,_=>by simp[Je]
 | _::_,_,[],_,h,_=>by simp at h
 | _::_,_,_::_,[],_,h=>by simp at h
 | k::ks,ls,u::us,v::vs,h1,h2=>by
  simp only[List.length_cons]at h1 h2
  simp[Je,Qiy ks ls us vs Zom Zom,Bool.and_assoc]
theorem Qai:∀ (ks:List SK) (us:List Value),Ug ks us→Ug ks (us.take ks.length)
 | [],us,_=>by cases us<;>trivial
 | _::_,[],h=>h.elim
 | k::ks,u::us,h=>⟨h.1,Qai ks us h.2⟩
theorem Qi4:∀ (ks:List SK) (us vs:List Value),Je ks (us.take ks.length) (vs.take ks.length)=Je ks us vs
 | [],_,_=>by simp[Je]
 | _::_,[],_=>by simp[Je]
 | _::_,_::_,[]=>by simp[Je]
 | k::ks,u::us,v::vs=>by simp[Je,Qi4 ks us vs]
def Wf (P:Program) (t:TypeId) (x:Value) (us:List Value):Prop :=
 match P.underlying t with
 | some (.struct _)=>x=.agg us.toArray
 | some (.array _ _)=>x=.agg us.toArray
 | _=>us=[x]
theorem Qax (w:World) {m:Nat} {e:TypeId} {ks:List SK} (h:Um P m e=some ks) (hi:(P.info? e).isSome) (hc:P.cellsOf e=ks.length) {xs:Array Value} {o:Nat} (hr:Ug ks (xs.toList.drop o)) :
  ∃ a,(part e xs o).run P w=.ok a w∧Wf P e a ((xs.toList.drop o).take ks.length):=by
 obtain ⟨i,hi⟩:=Option.isSome_iff_exists.1 hi
 cases m with
 | zero=>cases h
 | succ m =>
  have one:∀ k,ks=[k]→∃ v,xs[o]?=some v∧(xs.toList.drop o).take ks.length=[v]:=by
   rintro k rfl
   have hl:=Qa8 _ _ hr
   cases hd:xs.toList.drop o with
   | nil=>rw[hd]at hl;simp at hl
   | cons v r =>
    refine ⟨v,?_,by simp⟩
    have:(xs.toList.drop o)[0]?=some v:=by rw[hd];rfl
    simpa using this
  have agg:(xs.extract o (o + P.cellsOf e)).toList=(xs.toList.drop o).take ks.length:=by
   rw[Array.toList_extract,hc];simp[List.extract]
  unfold Um at h
  cases hu:P.underlying e with
  | none=>simp[hu]at h
  | some kd =>
   rw[hu]at h
   cases kd<;>simp at h
   case bool=>obtain ⟨v,h1,h2⟩:=one _ h.symm;exact ⟨v,by simp[part,isAgg,run_underlying hu,h1],by simp only[Wf,hu];exact h2⟩
   case int k=>obtain ⟨v,h1,h2⟩:=one _ h.symm;exact ⟨v,by simp[part,isAgg,run_underlying hu,h1],by simp only[Wf,hu];exact h2⟩
   case string=>obtain ⟨v,h1,h2⟩:=one _ h.symm;exact ⟨v,by simp[part,isAgg,run_underlying hu,h1],by simp only[Wf,hu];exact h2⟩
   case struct fs=>exact ⟨.agg (xs.extract o (o + P.cellsOf e)),by simp[part,isAgg,run_underlying hu,run_sizeOf w hi],by simp only[Wf,hu];rw[← agg]⟩
   case array n e'=>exact ⟨.agg (xs.extract o (o + P.cellsOf e)),by simp[part,isAgg,run_underlying hu,run_sizeOf w hi],by simp only[Wf,hu];rw[← agg]⟩
theorem Qgn {α:Type} {x:Option α} (h:¬ x.isNone=true):x.isSome=true:=by cases x<;>simp_all
def Qvj (P:Program) (D:Nat) (t:TypeId) (ks:List SK):Prop :=
 ∀ (w:World) (x y:Value) (us vs:List Value),Wf P t x us→Wf P t y vs→us.length=ks.length→vs.length=ks.length→Ug ks us→Ug ks vs→(Op.equalIn D t x y).run P w=.ok (Je ks us vs) w
theorem Qgk {m D:Nat} (IH:∀ t ks,Um P m t=some ks→Qvj P D t ks):∀ (fs:List Field) (o:Nat) (ks:List SK),Qkp (Um P m) P o fs=some ks→∀ (w:World) (xs ys:Array Value),Ug ks (xs.toList.drop o)→Ug ks (ys.toList.drop o) →
  (Op.eqFields D xs ys fs).run P w=.ok (Je ks (xs.toList.drop o) (ys.toList.drop o)) w
 | [],o,ks,h,w,xs,ys,_,_=>by cases h;simp[Op.eqFields,Je]
 | f::fs,o,ks,h,w,xs,ys,hx,hy=>by
  unfold Qkp at h
  split at h
  ·cases h
  ·rename_i hn
   simp only[not_or,Decidable.not_not]at hn
   obtain ⟨hname,hoff,hinfo'⟩:=hn
   have hinfo:=Qgn hinfo'
   simp only[Option.bind_eq_some_iff]at h
   obtain ⟨k1,h1,h2⟩:=h
   split at h2
   ·rename_i hc
    simp only[Option.map_eq_some_iff]at h2
    obtain ⟨k2,h2,rfl⟩:=h2
    obtain ⟨x1,x2⟩:=Qa6 _ _ _ hx
    obtain ⟨y1,y2⟩:=Qa6 _ _ _ hy
    obtain ⟨a,pa,ha⟩:=Qax w h1 hinfo hc x1
    obtain ⟨b,pb,hb⟩:=Qax w h1 hinfo hc y1
    have lx:=Qa8 _ _ x1
    have ly:=Qa8 _ _ y1
    have hr:=IH _ _ h1 w a b _ _ ha hb (by rw[List.length_take];omega) (by rw[List.length_take];omega) (Qai _ _ x1) (Qai _ _ y1)
    rw[Qi4]at hr
    rw[List.drop_drop]at x2 y2
    have ih:=Qgk IH fs (o + k1.length) k2 h2 w xs ys x2 y2
    rw[Qiy _ _ _ _ lx ly,List.drop_drop,List.drop_drop]
    simp only[Op.eqFields,hname,ne_eq,not_false_eq_true,if_true,Sem.run_bind,hoff,pa,pb,hr,Result.andThen_ok]
    cases hq:Je k1 (xs.toList.drop o) (ys.toList.drop o) with
    | false=>simp
    | true=>simpa using ih
   ·cases h2
theorem Qh3 {m D:Nat} {e:TypeId} {ks:List SK} (he:Um P m e=some ks) (hi:(P.info? e).isSome) (hc:P.cellsOf e=ks.length) (IH:Qvj P D e ks) (xs ys:Array Value):∀ (n i:Nat) (w:World),Ug (List.replicate n ks).flatten (xs.toList.drop (i * ks.length))→Ug (List.replicate n ks).flatten (ys.toList.drop (i * ks.length)) →
  (Op.eqItems D e (P.cellsOf e) xs ys (List.range' i n)).run P w=.ok (Je (List.replicate n ks).flatten (xs.toList.drop (i * ks.length)) (ys.toList.drop (i * ks.length))) w
 | 0,i,w,_,_=>by simp[Op.eqItems,Je]
 | n + 1,i,w,hx,hy=>by
  rw[List.replicate_succ,List.flatten_cons]at hx hy ⊢
  obtain ⟨x1,x2⟩:=Qa6 _ _ _ hx
  obtain ⟨y1,y2⟩:=Qa6 _ _ _ hy
  obtain ⟨a,pa,ha⟩:=Qax w he hi hc x1
  obtain ⟨b,pb,hb⟩:=Qax w he hi hc y1
  have lx:=Qa8 _ _ x1
  have ly:=Qa8 _ _ y1
  have hr:=IH w a b _ _ ha hb (by rw[List.length_take];omega) (by rw[List.length_take];omega) (Qai _ _ x1) (Qai _ _ y1)
  rw[Qi4]at hr
  have e1:i * ks.length + ks.length=(i + 1) * ks.length:=by rw[Nat.add_mul,Nat.one_mul]
  rw[List.drop_drop,e1]at x2 y2
  have ih:=Qh3 he hi hc IH xs ys n (i + 1) w x2 y2
  rw[Qiy _ _ _ _ lx ly,List.drop_drop,List.drop_drop,e1]
  rw[List.range'_succ]
  simp only[Op.eqItems,Sem.run_bind,hc,pa,pb,hr,Result.andThen_ok]
  cases hq:Je ks (xs.toList.drop (i * ks.length)) (ys.toList.drop (i * ks.length)) with
  | false=>simp
  | true=>rw[hc]at ih;simpa using ih
theorem Qil (d:Nat):∀ (m:Nat) (t:TypeId) (ks:List SK),Um P m t=some ks→Qvj P (d + m) t ks
 | 0,_,_,h=>by cases h
 | m + 1,t,ks,h=>by
  intro w x y us vs hx hy lu lv ou ov
  unfold Um at h
  cases hu:P.underlying t with
  | none=>simp[hu]at h
  | some kd =>
   rw[hu]at h
   simp only[Wf,hu]at hx hy
   cases kd<;>simp only[Option.some.injEq,reduceCtorEq]at h hx hy
   case bool =>
    subst h hx hy
    obtain ⟨⟨a,rfl⟩,_⟩:=ou
    obtain ⟨⟨b,rfl⟩,_⟩:=ov
    rw[← Nat.add_assoc,run_equalIn_bool' w _ t a b hu]
    simp[Je,Qjc]
   case int k =>
    subst h hx hy
    obtain ⟨⟨a,rfl⟩,_⟩:=ou
    obtain ⟨⟨b,rfl⟩,_⟩:=ov
    rw[← Nat.add_assoc,run_equalIn_int w _ t k k a b hu]
    simp[Je,Qjc]
   case string =>
    subst h hx hy
    obtain ⟨⟨a,rfl⟩,_⟩:=ou
    obtain ⟨⟨b,rfl⟩,_⟩:=ov
    rw[← Nat.add_assoc,run_equalIn_string w _ t a b hu]
    simp[Je,Qjc]
   case struct fs =>
    subst hx hy
    split at h
    ·cases h
    ·rename_i hp
     have hfs:P.fieldsOf t=fs:=by simp[Program.fieldsOf,hu]
     rw[← Nat.add_assoc,run_equalIn_struct w (d + m) t _ _ (by rw[hfs];exact hu) (by simpa using hp),hfs]
     have:=Qgk (Qil d m) fs.toList 0 ks h w us.toArray vs.toArray (by simpa using ou) (by simpa using ov)
     simpa using this
   case array n e =>
    subst hx hy
    split at h
    ·cases h
    ·rename_i hi
     replace hi:=Qgn hi
     obtain ⟨i,hi'⟩:=Option.isSome_iff_exists.1 hi
     simp only[Option.bind_eq_some_iff]at h
     obtain ⟨k1,h1,h2⟩:=h
     split at h2
     ·rename_i hc
      cases h2
      rw[← Nat.add_assoc,run_equalIn_array w (d + m) _ _ hu hi',List.range_eq_range']
      have:=Qh3 h1 hi hc (Qil d m e k1 h1) us.toArray vs.toArray n 0 w (by simpa using ou) (by simpa using ov)
      simpa using this
     ·cases h2
def Yx:AV→Option SK
 | .int k _=>some (.int k)
 | .bool _=>some .bool
 | .str _=>some .str
 | _=>none
theorem Qdi {g:Nat→GM} {W:Nat→Prop} {w:World}:∀ (ks:List SK) (cs:List AV) (us:List Value),cs.map Yx=ks.map some→us.length=cs.length→(∀ j,j < cs.length→VR g W w (cs.getD j .any) (us.getD j undef))→Ug ks us
 | [],_,us,_,_,_=>by cases us<;>trivial
 | _::_,[],_,h,_,_=>by simp at h
 | _::_,_::_,[],_,h,_=>by simp at h
 | k::ks,x::cs,u::us,h,hl,hv=>by
  simp only[List.map_cons,List.cons.injEq]at h
  have h0:=hv 0 Zsi
  simp only[List.getD_cons_zero]at h0
  refine ⟨?_,Qdi ks cs us h.2 (by simpa using hl) fun j hj=>by simpa using hv (j + 1) (by simp;omega)⟩
  have hk:=h.1
  cases x<;>simp[Yx]at hk<;>subst hk<;>cases h0<;>exact ⟨_,rfl⟩
theorem Qlr {g:Nat→GM} {W:Nat→Prop} {w:World}:∀ (ks:List SK) (cs ds:List AV) (us vs:List Value),cs.map Yx=ks.map some→ds.map Yx=ks.map some→us.length=cs.length→vs.length=ds.length→(∀ j,j < cs.length→VR g W w (cs.getD j .any) (us.getD j undef))→(∀ j,j < ds.length→VR g W w (ds.getD j .any) (vs.getD j undef)) →
  (Je ks us vs=true ↔ cs=ds)
 | [],[],[],_,_,_,_,_,_,_,_=>by simp[Je]
 | [],[],_::_,_,_,_,h,_,_,_,_=>by simp at h
 | [],_::_,_,_,_,h,_,_,_,_,_=>by simp at h
 | _::_,[],_,_,_,h,_,_,_,_,_=>by simp at h
 | _::_,_::_,[],_,_,_,h,_,_,_,_=>by simp at h
 | _::_,_::_,_::_,[],_,_,_,h,_,_,_=>by simp at h
 | _::_,_::_,_::_,_::_,[],_,_,_,h,_,_=>by simp at h
 | k::ks,x::cs,y::ds,u::us,v::vs,hc,hd,lu,lv,hu,hv=>by
  simp only[List.map_cons,List.cons.injEq]at hc hd
  have h0:=hu 0 Zsi
  have h1:=hv 0 Zsi
  simp only[List.getD_cons_zero]at h0 h1
  have ih:=Qlr ks cs ds us vs hc.2 hd.2 (by simpa using lu) (by simpa using lv) (fun j hj=>by simpa using hu (j + 1) (by simp;omega)) (fun j hj=>by simpa using hv (j + 1) (by simp;omega))
  simp only[Je,Bool.and_eq_true,ih,List.cons.injEq]
  refine and_congr_left fun _=>?_
  have k1:=hc.1
  have k2:=hd.1
  cases x<;>simp[Yx]at k1<;>subst k1<;>cases y<;>simp[Yx]at k2<;>cases h0<;>cases h1<;>simp_all [Qjc,ByteArray.toList_eq]
theorem Qyp {o:Oper} {ne:Bool} {t:TypeId} {xs:List Operand} (h:Xy P o=some (.cA ne t,xs)):∃ x y u,o.op=.binOp (bif ne then .neq else .eql) t x y u∧xs=[x,y]:=by
 unfold Xy at h
 repeat' split at h
 all_goals first
  | (simp only[Option.some.injEq,Prod.mk.injEq,PK.cA.injEq]at h;obtain ⟨⟨rfl,rfl⟩,rfl⟩:=h;rename_i hop;exact ⟨_,_,_,by rw[hop];rfl,rfl⟩)
  | (simp at h;done)
  | (cases h;done)
  | (simp[Option.map_eq_some_iff]at h;done)
theorem Qjb {c:Cx} {ne:Bool} {t:TypeId} {ks:List SK} {cs ds:List AV} {b:Bool} (hs:Um P 100 t=some ks) (hk:(match P.underlying t with|some (.struct _)=>true|some (.array _ _)=>true|_=>false)=true) (hm:P.eqGuardType P.depth t=false)
  (hc:cs.map Yx=ks.map some) (hd:ds.map Yx=ks.map some) (hb:b=true ↔ cs=ds):Qae P c (.cA ne t) [.agg cs,.agg ds] (.bool (ne != b)):=by
 intro o ys hel g W a w _ _ hv K Q hK
 obtain ⟨x,y,u,hop,rfl⟩:=Qyp hel
 obtain ⟨hx,hy,_⟩:=hv
 obtain ⟨xs,ex,lx,_,vx⟩:=Kv hx
 obtain ⟨zs,ey,ly,_,vy⟩:=Kv hy
 have lx':xs.toList.length=cs.length:=by simpa using lx
 have ly':zs.toList.length=ds.length:=by simpa using ly
 have gx:∀ j,xs.toList.getD j undef=xs.getD j undef:=fun j=>by simp[Array.getD_eq_getD_getElem?,List.getD]
 have gy:∀ j,zs.toList.getD j undef=zs.getD j undef:=fun j=>by simp[Array.getD_eq_getD_getElem?,List.getD]
 have vx':∀ j,j < cs.length→VR g W w (cs.getD j .any) (xs.toList.getD j undef):=fun j hj=>by rw[gx];exact vx j hj
 have vy':∀ j,j < ds.length→VR g W w (ds.getD j .any) (zs.toList.getD j undef):=fun j hj=>by rw[gy];exact vy j hj
 have kl:cs.length=ks.length:=by simpa using congrArg List.length hc
 have kl':ds.length=ks.length:=by simpa using congrArg List.length hd
 have hold:∀ z:Array Value,Wf P t (.agg z) z.toList:=fun z=>by
  unfold Wf
  split at hk<;>simp_all
 have hr:=Qil (P:=P) 9900 100 t ks hs w _ _ _ _ (hold xs) (hold zs) Zom Zom (Qdi ks cs _ hc lx' vx') (Qdi ks ds _ hd ly' vy')
 have he:Je ks xs.toList zs.toList=b:=by
  have:=(Qlr ks cs ds _ _ hc hd lx' ly' vx' vy').trans hb.symm
  cases hq:Je ks xs.toList zs.toList<;>cases b<;>simp_all
 rw[he]at hr
 have run:(execOp a.eval o).run P w=.ok (.value (.bool (ne != b))) w:=by
  unfold execOp
  cases ne
  ·simp only[hop,ex,ey,cond_false,Sem.run_bind,run_eqGuard_agg w _ t x y xs zs hm,run_eql_struct,hr,Result.andThen_ok,Sem.run_pure];cases b<;>rfl
  ·simp only[hop,ex,ey,cond_true,Sem.run_bind,run_eqGuard_agg w _ t x y xs zs hm,run_neq_struct,hr,Result.andThen_ok,Sem.run_pure];cases b<;>rfl
 unfold Oper.wp
 rw[run]
 exact hK _ _ (Fr.refl _ _) (.bool _)
end
section
variable {P:Program} {c:Cx} {g:Nat→GM} {s:FS} {a:Act} {w w':World}
theorem R.phantom (hR:R c g s a w) {b:Nat} (hfree:s.H b=.free):R c (Yu g b .ph) (s.putB b (.cells [])) a w:=by
 have hun:g b=.un:=by
  have:=hR.h b;rw[hfree]at this;generalize g b=m at this;cases this;rfl
 have hg:=Qbx (m:=.ph) hun
 have hself:Yu g b .ph b=.ph:=by simp[Yu]
 have hoth:∀ i,i≠b→Yu g b .ph i=g i:=fun i h=>by simp[Yu,h]
 have hl:∀ i k,((s.putB b (.cells [])).H i).live→Yu g b .ph i=.re k→i≠b∧(s.H i).live∧g i=.re k:=fun i k h e=>by
  have hne:i≠b:=fun h=>by subst h;rw[hself]at e;cases e
  rw[FS.H_putB,if_neg (fun h=>hne h.symm)]at h
  rw[hoth i hne]at e
  exact ⟨hne,h,e⟩
 have hW:∀ k,Qn c (Yu g b .ph) (s.putB b (.cells [])) k→Qn c g s k:=by
  rintro k (h|⟨i,h1,h2⟩)
  ·exact .inl h
  ·exact .inr ⟨i,(hl i k h1 h2).2.1,(hl i k h1 h2).2.2⟩
 have hf:=Fr.refl w (Qn c g s)
 refine ⟨hR.size,hR.def_,fun i=>(hR.t i).mono hf (fun k _=>hW k) hg,fun i=>(hR.gl i).mono hf (fun k _=>hW k) (fun _ _=>rfl),fun i=>?_,fun p q m hp hq h1 h2=>?_,fun p m hp h1=>?_,hR.fr,hR.xs,Qkd hR hun⟩
 ·rw[FS.H_putB]
  split
  ·rename_i e;subst e;rw[hself];exact .ph
  ·rename_i e
   rw[hoth i fun h=>e h.symm]
   exact (hR.h i).mono hf (fun k _=>hW k) hg fun _ _ _=>rfl
 ·exact hR.inj p q m (hl p m hp h1).2.1 (hl q m hq h2).2.1 (hl p m hp h1).2.2 (hl q m hq h2).2.2
 ·exact hR.old p m (hl p m hp h1).2.1 (hl p m hp h1).2.2
theorem Qeo (k o:Nat) (t:TypeId) (fz:Nat × Nat):∀ (vs:List Value) (i:Nat) (cur:Array Value) (w:World),w.heap[k]?=some (.cells cur t fz)→(fz=(0,0)∨cur.size≤fz.1)→o + i + vs.length≤cur.size→(∀ v ∈ vs,v.oneCell'=true) →
  (storeCells ⟨k,o,none⟩ vs i).run P w=.ok () (w.setRow k (cur.toList.take (o + i)++vs++cur.toList.drop (o + i + vs.length)).toArray)
 | [],i,cur,w,hg,_,_,_=>by
  simp only[storeCells,List.append_nil,List.length_nil,Nat.add_zero,List.take_append_drop,Array.toArray_toList]
  rw[setRow_self w k cur t fz hg]
  rfl
 | v::rest,i,cur,w,hg,hz,hl,h1=>by
  have hi:o + i < cur.size:=by simp at hl;omega
  have hadd:(⟨k,o,none⟩:Addr).add i=⟨k,o + i,none⟩:=by unfold Addr.add;split<;>simp_all
  have hcell:w.cell? ⟨k,o + i,none⟩=some cur[o + i]:=by simp[World.cell?,hg,hi]
  have hfro:w.frozen? ⟨k,o + i,none⟩=false:=by
   simp only[World.frozen?,hg]
   rcases hz with rfl|hz
   ·simp
   ·have:¬ fz.1≤o + i:=by omega
    simp[this]
  have hst:(store ((⟨k,o,none⟩:Addr).add i) v).run P w=.ok () (w.setRow k (cur.setIfInBounds (o + i) v)):=by
   rw[hadd,run_store P w _ v _ (h1 v Zsi),hcell]
   simp[hfro,setCell_eq_setRow w k (o + i) cur t fz v hg]
  have ih:=Qeo k o t fz rest (i + 1) (cur.setIfInBounds (o + i) v) (w.setRow k (cur.setIfInBounds (o + i) v)) (setRow_heap w k cur _ t _ hg) (by simpa using hz) (by simp at hl ⊢;omega) (fun x hx=>h1 x (by simp[hx]))
  simp only[storeCells,Sem.run_bind,hst,Result.andThen_ok,ih,setRow_setRow]
  congr 3
  have e:=list_seg_step cur.toList (o + i) v rest (by simp at hl ⊢;omega)
  simpa [Array.toList_setIfInBounds,Nat.add_assoc] using e
theorem Qg5 {t u ty e:TypeId} {i:TypeInfo} {z:Value} (ht:P.underlying t=some (.slice e)) (hu:u=t∨P.underlying u=some .string) (hi:P.info? e=some i) (hz:i.zero=some z)
  (ba:Option Addr) (sLen sCap:Nat) (x:Value) (m:Nat) (olds news:List Value) (w:World) (hlen:∀ w,(Builtin.lenOf x).run P w=.ok m w)
  (hnew:∀ w':World,w'.heap=w.heap→(Builtin.firstCells i.size m x).run P w'=.ok news.toArray w') (hold:∀ w':World,w'.heap=w.heap→(Builtin.firstCells i.size sLen (.slice ba sLen sCap)).run P w'=.ok olds.toArray w')
  (hg:sCap < sLen + m) (h63:((sLen + m:Nat):Int)≤9223372036854775807) (hfit:Builtin.nextslicecap (sLen + m) sCap * i.bytes≤281474976710656) :
  (Builtin.append_ #[t,u] ty #[.slice ba sLen sCap,x]).run P w =
   .ok (.slice (some ⟨w.heap.size,0,none⟩) (sLen + m) (grownCap w (sLen + m) sCap e))
    (w.drew.alloc (.cells (olds.toArray++news.toArray++Builtin.zeroCells z.cells (grownCap w (sLen + m) sCap e - (sLen + m))) e)):=by
 have hn:¬ (sLen + m≤sCap):=by omega
 have h63':¬ (9223372036854775807 < ((sLen:Int) + (m:Int))):=by omega
 have h48':¬ (281474976710656 < Builtin.nextslicecap (sLen + m) sCap * i.bytes):=by omega
 have hf:=hnew w.drew rfl
 have hfo:=hold w.drew rfl
 rcases hu with rfl|hu
 ·simp[Builtin.append_,run_underlying ht,sizeOf,typeInfo,zeroValue,hi,hz,hlen,hn,h63',h48',Question.forced,hf,hfo,newRow,grownCap]
  congr 2;apply Array.ext';simp
 ·simp[Builtin.append_,run_underlying ht,run_underlying hu,sizeOf,typeInfo,zeroValue,hi,hz,hlen,hn,h63',h48',Question.forced,hf,hfo,newRow,grownCap]
  congr 2;apply Array.ext';simp
theorem Qip {t u ty e:TypeId} {i:TypeInfo} (ht:P.underlying t=some (.slice e)) (hu:u=t∨P.underlying u=some .string) (hi:P.info? e=some i)
  (k sLen sCap:Nat) (x:Value) (m:Nat) (news:List Value) (cur:Array Value) (e':TypeId) (fz:Nat × Nat) (w:World) (hlen:∀ w,(Builtin.lenOf x).run P w=.ok m w) (hk:w.heap[k]?=some (.cells cur e' fz)) (hfz:fz=(0,0)∨cur.size≤fz.1)
  (hnew:∀ w':World,w'.heap=w.heap→(Builtin.firstCells i.size m x).run P w'=.ok news.toArray w') (h1:∀ u ∈ news,u.oneCell'=true)
  (hroom:sLen + m≤sCap) (hfit:sLen * i.size + news.length≤cur.size) :
  (Builtin.append_ #[t,u] ty #[.slice (some ⟨k,0,none⟩) sLen sCap,x]).run P w =
   .ok (.slice (some ⟨k,0,none⟩) (sLen + m) sCap) (w.setRow k (cur.toList.take (sLen * i.size)++news++cur.toList.drop (sLen * i.size + news.length)).toArray):=by
 have hst:=Qeo (P:=P) k (sLen * i.size) e' fz news 0 cur w hk hfz (by simpa using hfit) h1
 simp only[Nat.add_zero]at hst
 have hf:=hnew w rfl
 rcases hu with rfl|hu
 ·simp[Builtin.append_,run_underlying ht,sizeOf,typeInfo,hi,hlen,hroom,hf,Addr.add_lit,hst]
 ·simp[Builtin.append_,run_underlying ht,run_underlying hu,sizeOf,typeInfo,hi,hlen,hroom,hf,Addr.add_lit,hst]
theorem Qir {t u ty e:TypeId} {i:TypeInfo} (ht:P.underlying t=some (.slice e)) (hu:u=t∨P.underlying u=some .string) (hi:P.info? e=some i)
  (ba:Option Addr) (sLen sCap:Nat) (x:Value) (w:World) (hlen:∀ w,(Builtin.lenOf x).run P w=.ok 0 w)
  (hnew:∀ w':World,w'.heap=w.heap→(Builtin.firstCells i.size 0 x).run P w'=.ok #[] w') (hroom:sLen≤sCap) :
  (Builtin.append_ #[t,u] ty #[.slice ba sLen sCap,x]).run P w=.ok (.slice ba sLen sCap) w:=by
 have hf:=hnew w rfl
 rcases hu with rfl|hu
 ·cases ba<;>simp[Builtin.append_,run_underlying ht,sizeOf,typeInfo,hi,hlen,hroom,hf,storeCells]
 ·cases ba<;>simp[Builtin.append_,run_underlying ht,run_underlying hu,sizeOf,typeInfo,hi,hlen,hroom,hf,storeCells]
def Xh:AV→Nat
 | .isl m _=>m
 | .sl _ _ _ m _=>m
 | .str l=>l.length
 | _=>0
theorem Qov (es b o m cc:Nat):Xh (.sl es b o m cc)=m:=rfl
theorem Xqw (m:Nat) (ds:List AV):Xh (.isl m ds)=m:=rfl
theorem Xrc (l:List UInt8):Xh (.str l)=l.length:=rfl
theorem Xkl:Xh .nils=0:=rfl
def Xt (s:FS) (es:Nat):AV→List AV
 | .isl m ds=>ds.take (m * es)
 | .sl _ b o m _=>((Yo (s.H b)).drop o).take (m * es)
 | .str l=>Xk l
 | _=>[]
def Qr5:Value→Prop
 | .slice _ 0 _=>True
 | _=>False
theorem Xlu {v:Value} (h:Qr5 v):∃ a c,v=.slice a 0 c:=by
 unfold Qr5 at h;split at h
 ·exact ⟨_,_,rfl⟩
 ·exact h.elim
def Us (s:FS) (es:Nat) (str:Bool):AV→Prop
 | .isl m ds=>str=false∧m * es≤ds.length
 | .sl es2 b o m _=>str=false∧es2=es∧o + m * es≤(Yo (s.H b)).length
 | .nils=>str=false
 | .lit v=>str=false∧Qr5 v
 | .str _=>str=true∧es=1
 | _=>False
def Uu:AV→Option Nat
 | .sl _ b _ _ _=>some b
 | _=>none
def Qd9 (s:FS) (es:Nat):AV→Prop
 | .sl es2 b o n _=>es2=es∧o=0∧n * es≤(Yo (s.H b)).length∧(s.H b).live
 | .nils=>True
 | _=>False
def FS.killO (s:FS):Option Nat→FS
 | some b=>s.putB b .dead
 | none=>s
theorem Xew {s:FS} {b:Nat} {n:Nat} (h:n≤(Yo (s.H b)).length) (hn:0 < n):∃ cs,s.H b=.cells cs:=by
 cases hh:s.H b with
 | cells cs=>exact ⟨cs,rfl⟩
 | _=>rw[hh]at h;simp[Yo]at h;omega
theorem Qiz {k o:Nat} {cur:Array Value} {e:TypeId} {fz:Nat × Nat} (hb:w.heap[k]?=some (.cells cur e fz)) {n:Nat} (hn:o + n≤cur.size) :
  ∀ (w':World),w'.heap=w.heap→∀ j v,((cur.toList.drop o).take n)[j]?=some v→w'.cell? ((⟨k,o,none⟩:Addr).add j)=some v:=by
 intro w' hw j v hv
 have hadd:(⟨k,o,none⟩:Addr).add j=⟨k,o + j,none⟩:=by unfold Addr.add;split<;>simp_all
 rw[hadd]
 rw[List.getElem?_take]at hv
 split at hv
 ·rw[List.getElem?_drop]at hv
  simp only[World.cell?,hw,hb]
  simpa using hv
 ·cases hv
theorem Qcu (es m:Nat) {a':Option Addr} {len cap:Nat} {vs:List Value} (hl:vs.length=m * es) (h:∀ w':World,w'.heap=w.heap→∀ j v,vs[j]?=some v→∃ a0,a'=some a0∧w'.cell? (a0.add j)=some v) :
  ∀ w':World,w'.heap=w.heap→(Builtin.firstCells es m (.slice a' len cap)).run P w'=.ok vs.toArray w':=by
 intro w' hw
 cases a' with
 | none =>
  cases vs with
  | nil=>simp[Builtin.firstCells]
  | cons v vs=>obtain ⟨a0,h1,_⟩:=h w' hw 0 v rfl;cases h1
 | some a0 =>
  refine run_firstCells_some w' es m a0 len cap vs hl fun j v hj=>?_
  obtain ⟨a1,h1,h2⟩:=h w' hw j v hj
  cases h1;exact h2
theorem Qhu (hR:R c g s a w) {es:Nat} {str:Bool} {x:AV} {u:Value} (hx:VR g (Qn c g s) w x u) (ok:Us s es str x) :
  ∃ news:List Value,(∀ w,(Builtin.lenOf u).run P w=.ok (Xh x) w)∧(∀ w':World,w'.heap=w.heap→(Builtin.firstCells es (Xh x) u).run P w'=.ok news.toArray w') ∧
   news.length=Xh x * es∧(Xt s es x).length=Xh x * es∧(∀ v ∈ news,v.oneCell'=true)∧∀ j,j < Xh x * es→VR g (Qn c g s) w ((Xt s es x).getD j .any) (news.getD j undef):=by
 cases x<;>simp only[Us]at ok
 case isl m ds =>
  obtain ⟨rfl,hl⟩:=ok
  obtain ⟨ad,cap,us,rfl,h1,h2,h3,h4⟩:=Qav hx
  simp only[Xh]
  have hlen:((List.range (m * es)).map us).length=m * es:=by simp
  have hget:∀ j,j < m * es→((List.range (m * es)).map us).getD j undef=us j:=fun j hj=>by simp[List.getD,hj]
  refine ⟨(List.range (m * es)).map us,fun w=>rfl,Qcu es m hlen fun w' hw j v hj=>?_,hlen,by simp[Xt];omega,fun v hv=>?_,fun j hj=>?_⟩
  ·obtain ⟨hj',rfl⟩:=List.getElem?_eq_some_iff.1 hj
   rw[hlen]at hj'
   obtain ⟨k,o,rfl,h5,_⟩:=h3 j Zom
   refine ⟨_,rfl,?_⟩
   have hadd:(⟨k,o,none⟩:Addr).add j=⟨k,o + j,none⟩:=by unfold Addr.add;split<;>simp_all
   rw[hadd]
   simp only[List.getElem_map,List.getElem_range]
   rw[← h5];unfold Wu World.cell?;simp only[hw]
  ·obtain ⟨j,hj,rfl⟩:=List.mem_map.1 hv
   simp at hj
   obtain ⟨k,o,_,_,_,h6⟩:=h3 j Zom
   exact h6
  ·rw[hget j hj]
   have:(Xt s es (.isl m ds)).getD j .any=ds.getD j .any:=by simp[Xt,List.getD,List.getElem?_take,hj]
   rw[this];exact h4 j Zom
 case sl es2 b o m cc =>
  obtain ⟨rfl,rfl,hl⟩:=ok
  simp only[Xh]
  rcases Qar hx with ⟨k,cap,e,cur,fz,rfl,h1,h2,h3,h4,h5,h6⟩|⟨ad,rfl,h1,rfl,rfl⟩
  ·by_cases hpos:0 < m * es2
   ·obtain ⟨cs,hcs⟩:=Xew (s:=s) (b:=b) (n:=o + m * es2) hl Zom
    have hb:=hR.h b
    rw[h1,hcs]at hb
    cases hb with
    | cells hb hll h1' hv hf =>
    rename_i cur' e' fz'
    rw[h5]at hb;cases hb
    have hlc:o + m * es2≤cs.length:=by rw[hcs]at hl;exact hl
    have hlen:((cur.toList.drop o).take (m * es2)).length=m * es2:=by simp;omega
    have hget:∀ j,j < m * es2→((cur.toList.drop o).take (m * es2)).getD j undef=cur.getD (o + j) undef:=fun j hj=>by simp[List.getD,List.getElem?_take,hj,Array.getD_eq_getD_getElem?]
    refine ⟨(cur.toList.drop o).take (m * es2),fun w=>rfl,Qcu es2 m hlen fun w' hw j v hj=>⟨_,rfl,Qiz h5 Zom w' hw j v hj⟩,hlen,by simp[Xt,hcs,Yo];omega,fun v hv=>?_,fun j hj=>?_⟩
    ·obtain ⟨j,hj,rfl⟩:=List.getElem_of_mem hv
     rw[hlen]at hj
     have:=h1' (o + j) Zom
     have hg:=hget j hj
     simp only[List.getD,List.getElem?_eq_getElem (show j < ((cur.toList.drop o).take (m * es2)).length by omega),Option.getD_some]at hg
     rw[hg];exact this
    ·rw[hget j hj]
     have:(Xt s es2 (.sl es2 b o m cc)).getD j .any=cs.getD (o + j) .any:=by simp[Xt,hcs,Yo,List.getD,List.getElem?_take,hj]
     rw[this];exact hv _ Zom
   ·have hz:m * es2=0:=by omega
    refine ⟨[],fun w=>rfl,Qcu es2 m (by simp[hz]) fun w' hw j v hj=>by simp at hj,by simp[Xh,hz],by simp[Xh,Xt,hz],fun v hv=>(by cases hv),fun j hj=>Zom⟩
  ·refine ⟨[],fun w=>rfl,Qcu es2 0 Zsi fun w' hw j v hj=>by simp at hj,by simp[Xh],by simp[Xh,Xt],fun v hv=>(by cases hv),fun j hj=>Zom⟩
 case lit v =>
  obtain ⟨_,ok⟩:=ok
  obtain ⟨ad,cap,rfl⟩:=Xlu ok
  have:u=.slice ad 0 cap:=by cases hx;rfl
  subst this
  simp only[Xh]
  refine ⟨[],fun w=>rfl,Qcu es 0 Zsi fun w' hw j v hj=>by simp at hj,by simp[Xh],by simp[Xh,Xt],fun v hv=>(by cases hv),fun j hj=>Zom⟩
 case nils =>
  obtain ⟨ad,rfl⟩:=Qif hx
  simp only[Xh]
  refine ⟨[],fun w=>rfl,Qcu es 0 Zsi fun w' hw j v hj=>by simp at hj,by simp[Xh],by simp[Xh,Xt],fun v hv=>(by cases hv),fun j hj=>Zom⟩
 case str l =>
  obtain ⟨rfl,rfl⟩:=ok
  cases hx
  simp only[Xh]
  refine ⟨l.map fun b=>.int .u8 b.toNat,fun w=>?_,fun w' _=>?_,by simp[Xh],by simp[Xh,Xt,Xk],fun v hv=>?_,fun j hj=>?_⟩
  ·simp[Builtin.lenOf,Xh,ByteArray.size]
  ·have hx:(⟨l.toArray⟩:ByteArray).extract 0 l.length=⟨l.toArray⟩:=by
    have:l.length=(⟨l.toArray⟩:ByteArray).size:=rfl
    rw[this,ByteArray.extract_zero_size]
   simp[Builtin.firstCells,Xh,hx]
  ·obtain ⟨b,_,rfl⟩:=List.mem_map.1 hv;rfl
  ·simp only[Nat.mul_one]at hj
   have e1:(Xt s 1 (.str l)).getD j .any=.int .u8 (l[j]).toNat:=by simp[Xt,Xk,List.getD,hj]
   have e2:(l.map fun b:UInt8=>Value.int .u8 b.toNat).getD j undef=.int .u8 (l[j]).toNat:=by simp[List.getD,hj]
   rw[e1,e2];exact .int _ _
theorem Qee {g:Nat→GM} {b:Nat} {m:GM}:Yu g b m b=m:=by simp[Yu]
theorem Qrv (hR:R c g s a w) {nm:Nat} (hfree:s.H nm=.free) {es N cap:Nat} {e:TypeId} {cs:List AV} {vs:List Value} {zs:Array Value} (hl:vs.length=N * es) (hcl:cs.length=N * es) (hzs:zs.size=(cap - N) * es) (hN:N≤cap) (hm:cap≤maxLen)
  (h1:∀ v ∈ vs,v.oneCell'=true) (hv:∀ j,j < N * es→VR g (Qn c g s) w (cs.getD j .any) (vs.getD j undef)) :
  ∃ g',R c g' (s.putB nm (.cells cs)) a (w.drew.alloc (.cells (vs.toArray++zs) e))∧VR g' (Qn c g' (s.putB nm (.cells cs))) (w.drew.alloc (.cells (vs.toArray++zs) e)) (.sl es nm 0 N N) (.slice (some ⟨w.heap.size,0,none⟩) N cap):=by
 have hRd:R c g s a w.drew:=hR.grow (Fr.drew w _)
 have hge:∀ k,Qn c g s k→k < w.heap.size:=by
  rintro k (h|⟨b',hl,hg'⟩)
  ·have:=(hR.xs k h).1;have:=hR.fr.size;omega
  ·exact BR.lt (hg' ▸ hR.h b') hl
 have hget:∀ j,j < N * es→(vs.toArray++zs).getD j undef=vs.getD j undef:=fun j hj=>by
  simp[Array.getD_eq_getD_getElem?,List.getD,Array.getElem?_append,hl,hj]
 have hnew:=heap_alloc_new w.drew (.cells (vs.toArray++zs) e)
 have hR':=hRd.new (b:=nm) (x:=.cells cs) (.cells (vs.toArray++zs) e) hfree trivial fun g' hg'=>by
  refine .cells (cur:=vs.toArray++zs) (e:=e) (fz:=(0,0)) hnew (by simp[hl,hcl]) (fun j hj=>?_) (fun j hj=>?_) (.inl rfl)
  ·rw[hget j Zom]
   have hj':j < vs.length:=by omega
   simp only[List.getD,List.getElem?_eq_getElem hj',Option.getD_some]
   exact h1 _ (List.getElem_mem hj')
  ·rw[hget j Zom]
   exact ((hv j Zom).mono (Fr.drew w _) (fun _ _ h=>h) (fun _ _=>rfl)).mono (Fr.alloc w.drew _ _) (fun k hk h=>h.resolve_right (by simp at hk;simp;omega)) hg'
 refine ⟨_,hR',.sl (k:=w.heap.size) (e:=e) (cur:=vs.toArray++zs) (fz:=(0,0)) Qee (Nat.le_refl _) hN hm hnew ?_⟩
 simp[hl,hzs,← Nat.add_mul]
 exact Nat.mul_le_mul_right _ Zom
theorem Qap {s s':FS} (hT:∀ i,s.T i=s'.T i) (hH:∀ i,s.H i=s'.H i):s=s':=by
 cases s;cases s';congr 1<;>funext i
 ·exact hT i
 ·exact hH i
theorem Qpg {w:World} {k:Nat} {cur new:Array Value} {e:TypeId} {fz:Nat × Nat} (hk:w.heap[k]?=some (.cells cur e fz)) (hs:new.size=cur.size):Fr w (w.setRow k new) (fun i=>i=k) :=
 ⟨rfl,rfl,rfl,by simp[World.setRow],fun i _ hne=>setRow_other w k i new hne,fun i cur' e' fz' hi=>by
  by_cases h:i=k
  ·subst h
   rw[hk]at hi;cases hi
   exact ⟨new,setRow_heap w i cur new e fz hk,hs⟩
  ·exact ⟨cur',by rw[setRow_other w k i new h];exact hi,rfl⟩⟩
theorem Qzc (hR:R c g s a w) {nm:Nat} (hfree:s.H nm=.free) {t u ty e:TypeId} {i:TypeInfo} {z:Value} {es:Nat} (ht:P.underlying t=some (.slice e)) (hu:u=t∨P.underlying u=some .string) (hi:P.info? e=some i) (hz:i.zero=some z) (hes:i.size=es) (hzs:z.cells.size=es)
  (ad:Option Addr) {ux:Value} {m:Nat} {cs:List AV} {news:List Value} (q1:∀ w,(Builtin.lenOf ux).run P w=.ok m w) (q2:∀ w':World,w'.heap=w.heap→(Builtin.firstCells es m ux).run P w'=.ok news.toArray w')
  (q3:news.length=m * es) (q4:cs.length=m * es) (q5:∀ v ∈ news,v.oneCell'=true) (q6:∀ j,j < m * es→VR g (Qn c g s) w (cs.getD j .any) (news.getD j undef)) (h63:m≤maxLen) (hby:m * i.bytes≤140737488355328) :
  ∃ g' v' w',(Builtin.append_ #[t,u] ty #[.slice ad 0 0,ux]).run P w=.ok v' w'∧R c g' (s.putB nm (.cells cs)) a w'∧VR g' (Qn c g' (s.putB nm (.cells cs))) w' (.sl es nm 0 m m) v':=by
 by_cases hm:m=0
 ·subst hm
  have hn:news=[]:=List.eq_nil_of_length_eq_zero Zom
  have hc:cs=[]:=List.eq_nil_of_length_eq_zero Zom
  subst hn hc
  exact ⟨_,_,_,Qir ht hu hi ad 0 0 ux w q1 (by rw[hes];exact q2) (Nat.le_refl _),hR.phantom hfree,.slp Qee rfl⟩
 ·have hr:=Qg5 (ty:=ty) (P:=P) ht hu hi hz ad 0 0 ux m [] news w q1 (by rw[hes];exact q2) (fun w' _=>by cases ad<;>simp[Builtin.firstCells,loadCells,loadCellsFrom]) (by omega) (by simp only[maxLen]at h63;omega) (growslice_fits (by omega) (by simpa using hby))
  simp only[Nat.zero_add,List.nil_append]at hr
  have hge:=Qgu w m 0 e
  obtain ⟨g',h1,h2⟩:=Qrv (es:=es) (N:=m) (cap:=grownCap w m 0 e) (e:=e) (zs:=Builtin.zeroCells z.cells (grownCap w m 0 e - m)) hR hfree q3 q4 (by rw[size_zeroCells,hzs]) hge (grownCap_le_maxLen w m 0 e h63) q5 q6
  exact ⟨g',_,_,by rw[hr];simp,h1,h2⟩
theorem Xsd (hR:R c g s a w) {nm:Nat} (hfree:s.H nm=.free) {t u ty e:TypeId} {i:TypeInfo} {z:Value} {es:Nat} (ht:P.underlying t=some (.slice e)) (hu:u=t∨P.underlying u=some .string) (hi:P.info? e=some i) (hz:i.zero=some z) (hes:i.size=es) (hzs:z.cells.size=es)
  {vb vx:AV} {ub ux:Value} {str:Bool} (hb:VR g (Qn c g s) w vb ub) (hx:VR g (Qn c g s) w vx ux) (okb:Qd9 s es vb) (okx:Us s es str vx) (h63:Xh vb + Xh vx≤maxLen) (hby:(Xh vb + Xh vx) * i.bytes≤140737488355328) :
  ∃ g' v' w',(Builtin.append_ #[t,u] ty #[ub,ux]).run P w=.ok v' w'∧R c g' ((s.killO (Uu vb)).putB nm (.cells (Xt s es vb++Xt s es vx))) a w' ∧
   VR g' (Qn c g' ((s.killO (Uu vb)).putB nm (.cells (Xt s es vb++Xt s es vx)))) w' (.sl es nm 0 (Xh vb + Xh vx) (Xh vb + Xh vx)) v':=by
 obtain ⟨news,q1,q2,q3,q4,q5,q6⟩:=Qhu (P:=P) hR hx okx
 cases vb<;>simp only[Qd9]at okb
 case nils =>
  obtain ⟨ad,rfl⟩:=Qif hb
  simp only[Xh,Xt,Uu,FS.killO,Nat.zero_add,List.nil_append]at h63 hby ⊢
  exact Qzc hR hfree ht hu hi hz hes hzs ad q1 q2 q3 q4 q5 q6 h63 hby
 case sl es2 b o n cc =>
  obtain ⟨rfl,rfl,hl,hlive⟩:=okb
  have hne:nm≠b:=fun h=>by subst h;rw[hfree]at hlive;exact hlive
  have hgb:g b≠.un:=fun h=>by
   have:=hR.h b;rw[h]at this
   exact this.ne_un hlive
  have hfk:(s.putB b .dead).H nm=.free:=by rw[FS.H_putB,if_neg fun h=>hne h.symm,hfree]
  have hRk:=hR.kill hgb
  have hWk:∀ k,Qn c g (s.putB b .dead) k→Qn c g s k:=Qbs
  obtain ⟨olds,o1,o2,o3,o4,o5,o6⟩:=Qhu (P:=P) (str:=false) hR hb (x:=.sl es2 b 0 n cc) ⟨rfl,rfl,by simpa using hl⟩
  have hvk:∀ {x:AV} {y:Value},VR g (Qn c g s) w x y→VR g (Qn c g (s.putB b .dead)) w x y:=fun h=>h.mono (Fr.refl _ _) (fun k _=>hWk k) (fun _ _=>rfl)
  simp only[Qov]at h63 hby o1 o2 o3 o4 o6 ⊢
  simp only[Uu,FS.killO]
  rcases Qar hb with ⟨k,cap,e',cur,fz,rfl,h1,h2,h3,h4,h5,h6⟩|⟨ad,rfl,h1,rfl,rfl⟩
  ·have hlen:(olds++news).length=(n + Xh vx) * es2:=by rw[List.length_append,o3,q3,Nat.add_mul]
   have hclen:(Xt s es2 (.sl es2 b 0 n cc)++Xt s es2 vx).length=(n + Xh vx) * es2:=by rw[List.length_append,o4,q4,Nat.add_mul]
   have h1c:∀ v ∈ olds++news,v.oneCell'=true:=fun v hv=>(List.mem_append.1 hv).elim (o5 v) (q5 v)
   have hvc:∀ j,j < (n + Xh vx) * es2→VR g (Qn c g s) w ((Xt s es2 (.sl es2 b 0 n cc)++Xt s es2 vx).getD j .any) ((olds++news).getD j undef):=fun j hj=>by
    by_cases hjn:j < n * es2
    ·have:=o6 j hjn
     simp only[List.getD,List.getElem?_append_left (show j < (Xt s es2 (.sl es2 b 0 n cc)).length by omega),List.getElem?_append_left (show j < olds.length by omega)]at this ⊢
     exact this
    ·have:=q6 (j - n * es2) (by rw[Nat.add_mul]at hj;omega)
     simp only[List.getD,List.getElem?_append_right (show (Xt s es2 (.sl es2 b 0 n cc)).length≤j by omega),List.getElem?_append_right (show olds.length≤j by omega),o3,o4]at this ⊢
     exact this
   by_cases hroom:n + Xh vx≤cap
   ·-- in place
    have hBR:=hR.h b
    rw[h1]at hBR
    have hfz:fz=(0,0)∨cur.size≤fz.1:=by
     cases hh:s.H b with
     | cells cs=>rw[hh]at hBR;cases hBR with|cells hb' _ _ _ hf=>rw[h5]at hb';cases hb';exact hf
     | mapb kvs dn=>rw[hh]at hBR;cases hBR with|mapb hb'=>rw[h5]at hb';cases hb'
     | mapx kvs bs ck=>rw[hh]at hBR;cases hBR with|mapx hb'=>rw[h5]at hb';cases hb'
     | iter b0 ck seen=>rw[hh]at hBR;cases hBR with|iter hb'=>rw[h5]at hb';cases hb'
     | bag ls=>rw[hh]at hBR;cases hBR with|bag _ h'=>cases h' with|cells hb' _ _ _ hf=>rw[h5]at hb';cases hb';exact hf
     | free=>rw[hh]at hlive;exact hlive.elim
     | dead=>rw[hh]at hlive;exact hlive.elim
    have hmul:(n + Xh vx) * es2≤cap * es2:=Nat.mul_le_mul_right _ hroom
    have hfit:n * i.size + news.length≤cur.size:=by rw[hes,q3,← Nat.add_mul];omega
    have hr:=Qip (ty:=ty) (P:=P) ht hu hi k n cap ux (Xh vx) news cur e' fz w q1 h5 hfz (by rw[hes];exact q2) q5 hroom hfit
    rw[hes]at hr
    have holds:olds=cur.toList.take (n * es2):=by
     have a1:=o2 w rfl
     have a2:=run_firstCells_some (P:=P) w es2 n ⟨k,0,none⟩ n cap (cur.toList.take (n * es2)) (by simp;have:=Nat.mul_le_mul_right es2 (Nat.le_trans h2 h3);omega) (by have:=Qiz h5 (o:=0) (n:=n * es2) (by have:=Nat.mul_le_mul_right es2 (Nat.le_trans h2 h3);omega) w rfl;simpa using this)
     rw[a1]at a2
     simpa using a2
    have hsz:(cur.toList.take (n * es2)++news++cur.toList.drop (n * es2 + news.length)).toArray.size=cur.size:=by
     have:n * es2≤cur.size:=by have:=Nat.mul_le_mul_right es2 (Nat.le_trans h2 h3);omega
     rw[hes]at hfit
     simp;omega
    have hget:∀ j,j < (n + Xh vx) * es2→(cur.toList.take (n * es2)++news++cur.toList.drop (n * es2 + news.length)).toArray.getD j undef=(olds++news).getD j undef:=fun j hj=>by
     rw[← holds]
     simp only[Array.getD_eq_getD_getElem?,List.getD,List.getElem?_toArray]
     rw[List.getElem?_append_left Zom]
    have hf:=Qpg (new:=(cur.toList.take (n * es2)++news++cur.toList.drop (n * es2 + news.length)).toArray) h5 hsz
    have hkw:Qn c g s k:=.inr ⟨b,hlive,h1⟩
    have hset:=hR.setBlock (x:=.cells (Xt s es2 (.sl es2 b 0 n cc)++Xt s es2 vx)) h1 hlive trivial hf (by
     refine .cells (cur:=(cur.toList.take (n * es2)++news++cur.toList.drop (n * es2 + news.length)).toArray) (e:=e') (fz:=fz) (setRow_heap w k cur _ e' fz h5) Zom (fun j hj=>?_) (fun j hj=>?_) (by rw[hsz];exact hfz)
     ·rw[hget j Zom]
      have hj':j < (olds++news).length:=by omega
      simp only[List.getD,List.getElem?_eq_getElem hj',Option.getD_some]
      exact h1c _ (List.getElem_mem hj')
     ·rw[hget j Zom]
      exact (hvc j Zom).mono (hf.weak fun i hi=>hi ▸ hkw) (fun _ _ h=>h) (fun _ _=>rfl))
    have hmv:=hset.move (b:=b) (b':=nm) (by rw[FS.H_putB,if_pos rfl];trivial) (by rw[FS.H_putB,if_neg fun h=>hne h.symm,hfree])
    have hfs:((s.putB b (.cells (Xt s es2 (.sl es2 b 0 n cc)++Xt s es2 vx))).putB b .dead).putB nm ((s.putB b (.cells (Xt s es2 (.sl es2 b 0 n cc)++Xt s es2 vx))).H b)=(s.putB b .dead).putB nm (.cells (Xt s es2 (.sl es2 b 0 n cc)++Xt s es2 vx)):=by
     refine Qap (fun _=>rfl) fun j=>?_
     simp only[FS.H_putB,if_pos]
     split
     ·rfl
     ·split<;>rfl
    rw[hfs]at hmv
    refine ⟨_,_,_,hr,hmv,.sl (k:=k) (e:=e') (fz:=fz) (by rw[Qee];exact h1) (Nat.le_refl _) hroom h4 (setRow_heap w k cur _ e' fz h5) (by rw[hsz];exact h6)⟩
   ·have hge:=Qgu w (n + Xh vx) cap e
    have hr:=Qg5 (ty:=ty) (P:=P) ht hu hi hz (some ⟨k,0,none⟩) n cap ux (Xh vx) olds news w q1 (by rw[hes];exact q2) (by rw[hes];exact fun w' hw=>by simpa [Builtin.firstCells] using o2 w' hw) Zom (by simp only[maxLen]at h63;omega) (growslice_fits Zom hby)
    obtain ⟨g',e1,e2⟩:=Qrv (es:=es2) (N:=n + Xh vx) (cap:=grownCap w (n + Xh vx) cap e) (e:=e) (zs:=Builtin.zeroCells z.cells (grownCap w (n + Xh vx) cap e - (n + Xh vx))) hRk hfk hlen hclen (by rw[size_zeroCells,hzs]) hge (grownCap_le_maxLen w _ _ e h63) h1c (fun j hj=>hvk (hvc j hj))
    exact ⟨g',_,_,by rw[hr];simp,e1,e2⟩
  ·have hol:olds=[]:=List.eq_nil_of_length_eq_zero Zom
   have hcl:Xt s es2 (.sl es2 b 0 0 0)=[]:=List.eq_nil_of_length_eq_zero Zom
   rw[hcl]
   simp only[Nat.zero_add,List.nil_append]at h63 hby ⊢
   exact Qzc hRk hfk ht hu hi hz hes hzs ad q1 q2 q3 q4 q5 (fun j hj=>hvk (q6 j hj)) h63 hby
end
section
variable {P:Program} {c:Cx} {ops:Array Oper} {io:Oper}
theorem Qzu (s:FS) (kb:Option Nat) (i:Nat):(s.killO kb).T i=s.T i:=by cases kb<;>rfl
theorem Qyl (s:FS) (kb:Option Nat) (j:Nat):(s.killO kb).H j=if kb=some j then .dead else s.H j:=by
 cases kb with
 | none=>rfl
 | some b=>simp only[FS.killO,FS.H_putB,Option.some.injEq]
theorem Xu7 {s s2:FS} {nm d:Nat} {kb:Option Nat} {X:Bk} {V:AV} {rt rb:List Nat}:ovr s2 (((s.killO kb).putB nm X).put d V) ⟨rt,rb,[d],nm::kb.toList⟩=((s2.killO kb).putB nm X).put d V:=by
 refine Qap (fun i=>?_) fun j=>?_
 ·show (if i ∈ [d] then _ else _)=_
  simp only[FS.T_put,List.mem_singleton]
  by_cases h:i=d
  ·subst h;simp
  ·rw[if_neg h,if_neg fun e=>h e.symm];show _=(s2.killO kb).T i;rw[Qzu]
 ·show (if j ∈ nm::kb.toList then (((s.killO kb).putB nm X).put d V).H j else s2.H j)=_
  simp only[FS.H_put,FS.H_putB,Qyl,List.mem_cons,Option.mem_toList]
  by_cases h:nm=j
  ·subst h;simp
  ·simp only[if_neg h,if_neg (fun e:j=nm=>h e.symm),false_or,(fun e=>h e.symm:¬ j=nm)]
   by_cases hk:kb=some j
   ·subst hk;simp
   ·have hk':¬ j ∈ kb:=fun e=>hk e
    simp[hk,hk']
    exact fun e=>absurd e.symm h
theorem Qk6 {s:FS} {nm d:Nat} {kb:Option Nat} {X:List AV} {V:AV} {rt rb:List Nat} (hg:io.guard=none) (hdst:io.dst=some d) (hd:d < c.N)
  (core:∀ s2:FS,(∀ i ∈ rt,s2.T i=s.T i)→(∀ b ∈ rb,s2.H b=s.H b)→∀ g a w,R c g s2 a w→∃ g' v' w',(execOp a.eval io).run P w=.ok (.value v') w'∧R c g' ((s2.killO kb).putB nm (.cells X)) a w'∧VR g' (Qn c g' ((s2.killO kb).putB nm (.cells X))) w' V v') :
  AOk P c ops io s ⟨rt,rb,[d],nm::kb.toList⟩ (((s.killO kb).putB nm (.cells X)).put d V):=by
 refine ⟨fun i hi=>?_,fun j hj=>?_,fun s2 hT hH g a w hR K Q' hK=>Yl hg ?_⟩
 ·rw[FS.T_put,if_neg (fun e=>hi (by simp[e]))];exact Qzu s kb i
 ·rw[FS.H_put,FS.H_putB,Qyl,if_neg (fun e=>hj (by simp[e])),if_neg (fun e=>hj (by simp[e]))]
 ·obtain ⟨g',v',w',hr,hR',hv⟩:=core s2 hT hH g a w hR
  unfold Oper.wp
  rw[hr]
  show K (a.put io.dst v') w'
  rw[hdst]
  refine hK g' _ w' ?_
  rw[Xu7]
  exact hR'.put hd hv
theorem Qt9 {o:Oper} {es by_:Nat} {str:Bool} {xs:List Operand} (h:Xy P o=some (.app es by_ str,xs)) :
  ∃ x y t u e i z,xs=[x,y]∧o.op=.call ⟨.builtin .append,⟨[x,y]⟩,⟨[t,u]⟩⟩∧P.underlying t=some (.slice e)∧P.info? e=some i∧i.zero=some z∧z.cells.size=i.size∧i.size=es∧i.bytes=by_∧(u=t∨P.underlying u=some .string):=by
 unfold Xy at h
 repeat' split at h
 all_goals first
  | (cases h;exact ⟨_,_,_,_,_,_,_,rfl,by assumption,by assumption,by assumption,by assumption,(by rename_i hc _;exact hc.1),rfl,rfl,.inl (by assumption)⟩)
  | (cases h;exact ⟨_,_,_,_,_,_,_,rfl,by assumption,by assumption,by assumption,by assumption,(by rename_i hc _ _ _;exact hc.1),rfl,rfl,.inr (by assumption)⟩)
  | (simp at h;done)
  | (cases h;done)
  | (simp[Option.map_eq_some_iff]at h;done)
  | trace_state
def Qr3 (s:FS) (es by_:Nat) (str:Bool) (nm:Nat):List AV→Prop
 | [vb,vx]=>Qd9 s es vb∧Us s es str vx∧s.H nm=.free∧Xh vb + Xh vx≤9223372036854775807∧(Xh vb + Xh vx) * by_≤140737488355328
 | _=>False
def Xq5 (es nm:Nat):List AV→AV
 | [vb,vx]=>.sl es nm 0 (Xh vb + Xh vx) (Xh vb + Xh vx)
 | _=>.any
def Qtj (s:FS) (es:Nat):List AV→List AV
 | [vb,vx]=>Xt s es vb++Xt s es vx
 | _=>[]
def Xet:List AV→Option Nat
 | vb::_=>Uu vb
 | []=>none
def Qs3:List AV→List Nat
 | [vb,vx]=>(Uu vb).toList++(Uu vx).toList
 | _=>[]
def St.killO (s:St):Option Nat→St
 | some b=>s.putB b .dead
 | none=>s
theorem St.fs_killO (s:St) (kb:Option Nat):(s.killO kb).fs=s.fs.killO kb:=by
 cases kb with
 | none=>rfl
 | some b=>exact St.fs_putB _ _ _
theorem St.n_killO (s:St) (kb:Option Nat):(s.killO kb).n=s.n:=by cases kb<;>rfl
theorem Qes {s s2:FS} {es:Nat} {x:AV} (h:∀ b,Uu x=some b→s2.H b=s.H b):Xt s2 es x=Xt s es x:=by
 cases x<;>simp only[Xt]
 rename_i b o n cc
 rw[h _ rfl]
theorem Ql2 {s s2:FS} {es:Nat} {str:Bool} {x:AV} (h:∀ b,Uu x=some b→s2.H b=s.H b) (ok:Us s es str x):Us s2 es str x:=by
 cases x<;>simp only[Us]at ok ⊢<;>try exact ok
 rw[h _ rfl];exact ok
theorem Qsy {s s2:FS} {es:Nat} {x:AV} (h:∀ b,Uu x=some b→s2.H b=s.H b) (ok:Qd9 s es x):Qd9 s2 es x:=by
 cases x<;>simp only[Qd9]at ok ⊢<;>try exact ok
 rw[h _ rfl];exact ok
def Qkc (s:St) (gl:Nat→AV) (d:Nat) (xs:List TV):Foot:=⟨Xj xs,s.n::Qs3 ((evs gl s.fs xs).map Qj),[d],s.n::(Xet ((evs gl s.fs xs).map Qj)).toList⟩
def Qn7 (s:St) (gl:Nat→AV) (d es:Nat) (xs:List TV):St:=((s.killO (Xet ((evs gl s.fs xs).map Qj))).nw (.cells (Qtj s.fs es ((evs gl s.fs xs).map Qj)))).put d (Xq5 es s.n ((evs gl s.fs xs).map Qj))
theorem Qrc {s:St} {d es by_:Nat} {str:Bool} {xs:List TV} (hc:Qt none (evs c.gl s.fs xs)) (hok:Qr3 s.fs es by_ str s.n ((evs c.gl s.fs xs).map Qj)) :
  Kj P c (.pd (some d) (.app es by_ str) xs none) s.fs (Qkc s c.gl d xs) (Qn7 s c.gl d es xs).fs:=by
 intro ops io he
 obtain ⟨hgd,hdst,hd,ys,hel,rfl⟩:=Zd he
 obtain ⟨x,y,t,u,e,i,z,rfl,hop,hu,hi,hz,hzs,hes,hby,hut⟩:=Qt9 hel
 have hv2:(evs c.gl s.fs ([x,y].map tvO)).map Qj=[Qj (evT c.gl s.fs (tvO x)),Qj (evT c.gl s.fs (tvO y))]:=rfl
 unfold Qkc Qn7
 rw[hv2]at hok ⊢
 generalize hvb:Qj (evT c.gl s.fs (tvO x))=vb at *
 generalize hvx:Qj (evT c.gl s.fs (tvO y))=vx at *
 obtain ⟨okb,okx,hfree,h63,hb⟩:=hok
 rw[St.fs_put,St.fs_nw,St.fs_killO,St.n_killO]
 simp only[Xet,Qtj,Xq5,Qs3]
 refine Qk6 (Jl hgd) hdst (by simpa using hd) fun s2 hT hH g a w hR=>?_
 have hevs:evs c.gl s2 ([x,y].map tvO)=evs c.gl s.fs ([x,y].map tvO):=Ye hT
 have hvs:=Yh (hR.evs [x,y]) (by rw[hevs];exact hc)
 rw[hevs,hv2]at hvs
 obtain ⟨v1,v2,_⟩:=hvs
 have hHb:∀ b,Uu vb=some b→s2.H b=s.fs.H b:=fun b h=>hH b (by simp[h])
 have hHx:∀ b,Uu vx=some b→s2.H b=s.fs.H b:=fun b h=>hH b (by simp[h])
 obtain ⟨g',v',w',hr,h1,h2⟩:=Xsd (P:=P) (ty:=io.type) hR (nm:=s.n) (by rw[hH _ Zsi];exact hfree) hu hut hi hz hes (hzs.trans hes) v1 v2 (Qsy hHb okb) (Ql2 hHx okx) (by unfold maxLen;omega) (by rw[hby];exact hb)
 rw[Qes hHb,Qes hHx]at h1 h2
 refine ⟨g',v',w',?_,h1,h2⟩
 unfold execOp
 simp only[hop,resolve,invoke,builtin,Sem.run_bind,Sem.run_pure,Result.andThen_ok,List.map_toArray,List.map_cons,List.map_nil,hr]
theorem Qgy {r0:List TOp} {K:St→Prop} {s:St} {d es by_:Nat} {str:Bool} {xs:List TV} (h:Qt none (evs c.gl s.fs xs)∧Qr3 s.fs es by_ str s.n ((evs c.gl s.fs xs).map Qj)∧XP P c r0 K (Qn7 s c.gl d es xs)) :
  Yc P c (.pd (some d) (.app es by_ str) xs none) r0 K s:=.inl ⟨_,_,Qrc h.1 h.2.1,h.2.2⟩
theorem Qf7 {anc:List Nat} {fs:List Foot} {r0:List TOp} {K:St→Prop} {s:St} {d es by_:Nat} {str:Bool} {xs:List TV} (h:Qt none (evs c.gl s.fs xs)∧Qr3 s.fs es by_ str s.n ((evs c.gl s.fs xs).map Qj)∧XD P c anc r0 (Qkc s c.gl d xs::fs) K (Qn7 s c.gl d es xs)) :
  Za P c anc (.pd (some d) (.app es by_ str) xs none) r0 fs K s:=⟨_,_,Qrc h.1 h.2.1,h.2.2⟩
theorem Xkk (v:List (Value × Nat)):∀ (off:Nat) (cs:Array Value),(v.foldl (fun cs (c,j)=>cs.setIfInBounds (off + j) c) cs).size=cs.size:=by
 induction v with
 | nil=>intro off cs;rfl
 | cons p v ih=>intro off cs;rw[List.foldl_cons,ih];simp
theorem Qpw {place:Nat→Option (Nat × Nat)}:∀ (l:List (Nat × Value)) (cells cells':Array Value),Instr.fill place cells l=some cells'→cells'.size=cells.size
 | [],cells,cells',h=>by simp[Instr.fill]at h;rw[h]
 | (i,v)::l,cells,cells',h=>by
  unfold Instr.fill at h
  split at h
  ·cases h
  ·split at h
   ·cases h
   ·rw[Qpw l _ _ h]
    rw[← Array.foldl_toList]
    exact Xkk _ _ _
theorem Qmt {place:Nat→Option (Nat × Nat)} {cells cells':Array Value} {l:List (Nat × Value)} (h:Instr.fill place cells l=some cells'):cells'.size=cells.size:=Qpw l cells cells' h
def Qaa:Nat→List AV→List AV
 | 0,_=>[]
 | n + 1,z=>z++Qaa n z
theorem Qrh (z:List AV):∀ n,(Qaa n z).length=n * z.length
 | 0=>by simp[Qaa]
 | n + 1=>by simp[Qaa,Qrh z n,Nat.add_mul];omega
theorem Qv0 (z:List AV):∀ n j,j < n * z.length→(Qaa n z).getD j .any=z.getD (j % z.length) .any
 | 0,j,h=>by simp at h
 | n + 1,j,h=>by
  simp only[Qaa,List.getD]
  by_cases hj:j < z.length
  ·rw[List.getElem?_append_left hj,Nat.mod_eq_of_lt hj]
  ·rw[List.getElem?_append_right Zom]
   have h2:j - z.length < n * z.length:=by rw[Nat.add_mul]at h;omega
   have ih:=Qv0 z n (j - z.length) h2
   simp only[List.getD]at ih
   rw[ih,← Nat.mod_eq_sub_mod Zom]
theorem Qvu {o:Oper} {es len:Nat} {zs:List AV} {ps:List (Nat × Nat)} {xs:List Operand} (h:Xy P o=some (.bsl es len zs ps,xs)) :
  ∃ t e i z parts,o.op=.buildSlice t len parts∧P.underlying t=some (.slice e)∧P.info? e=some i∧i.zero=some z∧z.cells.size=i.size∧0 < i.size∧z.cells.all (·.oneCell')=true∧len * i.size≤2 ^ 24∧len≤2 ^ 24 ∧
   es=i.size∧zs=z.cells.toList.map ofS∧ps=parts.toList.map (fun p=>(p.1 * i.size,i.size))∧xs=parts.toList.map (·.2):=by
 unfold Xy at h
 repeat' split at h
 all_goals first
  | (simp only[Option.some.injEq,Prod.mk.injEq,PK.bsl.injEq]at h;obtain ⟨⟨rfl,rfl,rfl,rfl⟩,rfl⟩:=h
     rename_i hc;exact ⟨_,_,_,_,_,by assumption,by assumption,by assumption,by assumption,hc.1,hc.2.1,hc.2.2.1,hc.2.2.2.1,hc.2.2.2.2,rfl,rfl,rfl,rfl⟩)
  | (simp at h;done)
  | (cases h;done)
  | (simp[Option.map_eq_some_iff]at h;done)
theorem Qux {s:St} {d es len:Nat} {zs:List AV} {ps:List (Nat × Nat)} {xs:List TV} (hc:Qt none (evs c.gl s.fs xs)) (hlen:0 < len) (hfree:s.fs.H s.n=.free) (hok:Yr (Qaa len zs).length ps ((evs c.gl s.fs xs).map Qj)) :
  Kj P c (.pd (some d) (.bsl es len zs ps) xs none) s.fs ⟨Xj xs,[s.n],[d],[s.n]⟩ ((s.nw (.cells (Zp (Qaa len zs) ps ((evs c.gl s.fs xs).map Qj)))).put d (.sl es s.n 0 len len)).fs:=by
 intro ops io he
 obtain ⟨hgd,hdst,hd,ys,hel,rfl⟩:=Zd he
 obtain ⟨t,e,i,z,parts,hop,hu,hi,hz,hzs,hpos,hz1,h24,h24',rfl,rfl,rfl,rfl⟩:=Qvu hel
 rw[St.fs_put,St.fs_nw]
 refine Qk6 (kb:=none) (Jl hgd) hdst (by simpa using hd) fun s2 hT hH g a w hR=>?_
 have hevs:=Ye (gl:=c.gl) hT
 have hvs:=Yh (hR.evs (parts.toList.map (·.2))) (by rw[hevs];exact hc)
 rw[hevs]at hvs
 have hf2:s2.H s.n=.free:=by rw[hH _ Zsi,hfree]
 have hzl:(z.cells.toList.map ofS).length=i.size:=by simp[hzs]
 have hrl:(Qaa len (z.cells.toList.map ofS)).length=len * i.size:=by rw[Qrh,hzl]
 have hcl:((Array.range (len * i.size)).map (z.cells[· % z.cells.size]!)).size=len * i.size:=by simp
 have hcg:∀ j,j < len * i.size→((Array.range (len * i.size)).map (z.cells[· % z.cells.size]!)).getD j undef=z.cells.getD (j % i.size) undef:=fun j hj=>by
  have hm:=Nat.mod_lt j hpos
  simp[Array.getD_eq_getD_getElem?,hj,hzs,hm]
 have h1z:∀ j,j < i.size→(z.cells.getD j undef).oneCell'=true:=fun j hj=>by
  have:=Array.all_eq_true.1 hz1 j Zom
  simpa [Array.getD_eq_getD_getElem?,show j < z.cells.size by omega] using this
 have hgz:∀ j,j < i.size→(z.cells.toList.map ofS).getD j .any=ofS (z.cells.getD j undef):=fun j hj=>by
  simp[List.getD,Array.getD_eq_getD_getElem?,show j < z.cells.size by omega]
 obtain ⟨cells',f1,f2⟩:=Qo9 (g:=g) (W:=Qn c g s2) (w:=w) (place:=fun j=>some (j * i.size,i.size)) (parts.toList.map fun (p:Nat × Operand)=>(p.1 * i.size,i.size)) (parts.toList.map (fun (p:Nat × Operand)=>p.1)) Zsi hvs Zsi (cs:=Qaa len (z.cells.toList.map ofS)) (cells:=(Array.range (len * i.size)).map (z.cells[· % z.cells.size]!)) hok (by rw[hcl,hrl])
  (fun j hj=>by rw[hrl]at hj;rw[hcg j hj];exact h1z _ (Nat.mod_lt _ hpos)) (fun j hj=>by
   rw[hrl]at hj
   rw[hcg j hj,Qv0 _ _ _ (by rw[hzl];exact hj),hzl,hgz _ (Nat.mod_lt _ hpos)]
   exact Qms _)
 obtain ⟨us,eu,q1,q2,q3⟩:=Kv f2
 cases eu
 have hpz:(parts.map fun (p:Nat × Operand)=>(p.1,a.eval p.2)).toList=(parts.toList.map (·.1)).zip ((parts.toList.map (·.2)).map a.eval):=by
  simp only[Array.toList_map]
  induction parts.toList with
  | nil=>rfl
  | cons p l ih=>simp[ih]
 have hbl:(Zp (Qaa len (z.cells.toList.map ofS)) (parts.toList.map fun p=>(p.1 * i.size,i.size)) ((evs c.gl s.fs ((parts.toList.map (·.2)).map tvO)).map Qj)).length=len * i.size:=by
  rw[← q1]
  have:=Qmt f1
  rw[this,hcl]
 have hr:=run_buildSlice (P:=P) w t e len (parts.map fun (j,x)=>(j,a.eval x)) cells' i z hu hi hz Zom (Nat.ne_of_gt (Nat.mul_pos hlen hpos)) (by rw[← hpz]at f1;exact f1)
 have hge:∀ k,Qn c g s2 k→k < w.heap.size:=by
  rintro k (h|⟨b',hl,hg'⟩)
  ·have:=(hR.xs k h).1;have:=hR.fr.size;omega
  ·exact BR.lt (hg' ▸ hR.h b') hl
 have hnew:=heap_alloc_new w (.cells cells' e)
 have hR':=hR.new (b:=s.n) (x:=.cells (Zp (Qaa len (z.cells.toList.map ofS)) (parts.toList.map fun p=>(p.1 * i.size,i.size)) ((evs c.gl s.fs ((parts.toList.map (·.2)).map tvO)).map Qj))) (.cells cells' e) hf2 trivial fun g' hg' =>
  .cells (cur:=cells') (e:=e) (fz:=(0,0)) hnew Zom q2 (fun j hj=>(q3 j hj).mono (Fr.alloc w _ _) (fun k hk h=>h.resolve_right Zom) hg') (.inl rfl)
 refine ⟨_,_,_,?_,hR',.sl (k:=w.heap.size) (e:=e) (cur:=cells') (fz:=(0,0)) Qee (Nat.le_refl _) (Nat.le_refl _) (by unfold maxLen;omega) hnew (by rw[q1,hbl];omega)⟩
 unfold execOp
 simp only[hop,Sem.run_bind,hr,Result.andThen_ok,Sem.run_pure]
theorem Qh7 {r0:List TOp} {K:St→Prop} {s:St} {d es len:Nat} {zs:List AV} {ps:List (Nat × Nat)} {xs:List TV} (h:Qt none (evs c.gl s.fs xs)∧0 < len∧s.fs.H s.n=.free∧Yr (Qaa len zs).length ps ((evs c.gl s.fs xs).map Qj) ∧
  XP P c r0 K ((s.nw (.cells (Zp (Qaa len zs) ps ((evs c.gl s.fs xs).map Qj)))).put d (.sl es s.n 0 len len))):Yc P c (.pd (some d) (.bsl es len zs ps) xs none) r0 K s:=.inl ⟨_,_,Qux h.1 h.2.1 h.2.2.1 h.2.2.2.1,h.2.2.2.2⟩
theorem Qf5 {anc:List Nat} {fs:List Foot} {r0:List TOp} {K:St→Prop} {s:St} {d es len:Nat} {zs:List AV} {ps:List (Nat × Nat)} {xs:List TV} (h:Qt none (evs c.gl s.fs xs)∧0 < len∧s.fs.H s.n=.free∧Yr (Qaa len zs).length ps ((evs c.gl s.fs xs).map Qj) ∧
  XD P c anc r0 (⟨Xj xs,[s.n],[d],[s.n]⟩::fs) K ((s.nw (.cells (Zp (Qaa len zs) ps ((evs c.gl s.fs xs).map Qj)))).put d (.sl es s.n 0 len len))):Za P c anc (.pd (some d) (.bsl es len zs ps) xs none) r0 fs K s:=⟨_,_,Qux h.1 h.2.1 h.2.2.1 h.2.2.2.1,h.2.2.2.2⟩
theorem Xpq {o:Oper} {xs:List Operand} (h:Xy P o=some (.s2b,xs)):∃ src dst e x,o.op=.convert src dst x∧P.underlying src=some .string∧P.underlying dst=some (.slice e)∧P.underlying e=some (.int .u8)∧xs=[x]:=by
 unfold Xy at h
 repeat' split at h
 all_goals first
  | (simp only[Option.some.injEq,Prod.mk.injEq,true_and]at h;subst h;exact ⟨_,_,_,_,by assumption,by assumption,by assumption,by assumption,rfl⟩)
  | (simp at h;done)
  | (cases h;done)
  | (simp[Option.map_eq_some_iff]at h;done)
def Qny:AV→Prop
 | .str _=>True
 | _=>False
theorem Qri {s:St} {d:Nat} {x:TV} (hc:cok none (evT c.gl s.fs x)) (hfree:s.fs.H s.n=.free) (hok:Qny (Qj (evT c.gl s.fs x))∧(asS (Qj (evT c.gl s.fs x))).length≤9223372036854775807) :
  Kj P c (.pd (some d) .s2b [x] none) s.fs ⟨Xj [x],[s.n],[d],[s.n]⟩ ((s.nw (.cells (Xk (asS (Qj (evT c.gl s.fs x)))))).put d (.sl 1 s.n 0 (asS (Qj (evT c.gl s.fs x))).length (asS (Qj (evT c.gl s.fs x))).length)).fs:=by
 intro ops io he
 obtain ⟨hgd,hdst,hd,ys,hel,hys⟩:=Zd he
 obtain ⟨src,dst,e,y,hop,hs,hdd,hee,rfl⟩:=Xpq hel
 simp only[List.map_cons,List.map_nil,List.cons.injEq,and_true]at hys
 subst hys
 rw[St.fs_put,St.fs_nw]
 refine Qk6 (kb:=none) (Jl hgd) hdst (by simpa using hd) fun s2 hT hH g a w hR=>?_
 have hev:evT c.gl s2 (tvO y)=evT c.gl s.fs (tvO y):=by
  have:=Ye (gl:=c.gl) (xs:=[tvO y]) hT
  simpa [evs] using this
 have hv:=Qfy (hR.ev y) (by rw[hev];exact hc)
 rw[hev]at hv
 obtain ⟨h1,h2⟩:=hok
 generalize Qj (evT c.gl s.fs (tvO y))=v at *
 cases v<;>simp only[Qny]at h1
 rename_i l
 simp only[asS]at h2 ⊢
 have hf2:s2.H s.n=.free:=by rw[hH _ Zsi,hfree]
 generalize hy:a.eval y=uy at hv
 cases hv
 have hr:=run_bytes_of_string (P:=P) w src dst e ⟨l.toArray⟩ hs hdd hee
 have hsz:(⟨l.toArray⟩:ByteArray).size=l.length:=rfl
 rw[hsz]at hr
 generalize hcap:grownCap w l.length 0 e=cap at hr
 have hge:l.length≤cap:=by rw[← hcap];exact Qgu w _ _ _
 have hle:cap≤maxLen:=by rw[← hcap];exact grownCap_le_maxLen w _ _ _ (by unfold maxLen;omega)
 have hbs:(bytesRow ⟨l.toArray⟩ cap).size=cap:=by simp[bytesRow,hsz];omega
 have hbg:∀ j (hj:j < l.length),(bytesRow ⟨l.toArray⟩ cap).getD j undef=.int .u8 (l[j]).toNat:=fun j hj=>by
  have:=bytesRow_at ⟨l.toArray⟩ cap j (by simpa using hj)
  rw[Array.getD_eq_getD_getElem?,this];simp
 have hRd:R c g s2 a w.drew:=hR.grow (Fr.drew w _)
 have hge':∀ k,Qn c g s2 k→k < w.drew.heap.size:=by
  rintro k (h|⟨b',hl,hg'⟩)
  ·have:=(hRd.xs k h).1;have:=hRd.fr.size;omega
  ·exact BR.lt (hg' ▸ hRd.h b') hl
 have hnew:=heap_alloc_new w.drew (.cells (bytesRow ⟨l.toArray⟩ cap) e ((bytesRow ⟨l.toArray⟩ cap).size,(bytesRow ⟨l.toArray⟩ cap).size + 1))
 have hbl:(Xk l).length=l.length:=Quh l
 have hR':=hRd.new (b:=s.n) (x:=.cells (Xk l)) (.cells (bytesRow ⟨l.toArray⟩ cap) e ((bytesRow ⟨l.toArray⟩ cap).size,(bytesRow ⟨l.toArray⟩ cap).size + 1)) hf2 trivial fun g' hg'=>by
  refine .cells (cur:=bytesRow ⟨l.toArray⟩ cap) (e:=e) hnew (by rw[hbl,hbs];exact hge) (fun j hj=>?_) (fun j hj=>?_) (.inr (Nat.le_refl _))
  ·rw[hbg j Zom];rfl
  ·rw[hbg j Zom,Qry Zom]
   simp only[List.getD,List.getElem?_eq_getElem (show j < l.length by omega),Option.getD_some]
   exact .int _ _
 refine ⟨_,_,_,?_,hR',.sl (k:=w.heap.size) (e:=e) Qee (Nat.le_refl _) hge hle hnew (by rw[hbs];omega)⟩
 unfold execOp
 simp only[hop,hy,Sem.run_bind,hr,Result.andThen_ok,Sem.run_pure]
theorem Qhe {r0:List TOp} {K:St→Prop} {s:St} {d:Nat} {x:TV} (h:cok none (evT c.gl s.fs x)∧s.fs.H s.n=.free∧(Qny (Qj (evT c.gl s.fs x))∧(asS (Qj (evT c.gl s.fs x))).length≤9223372036854775807) ∧
  XP P c r0 K ((s.nw (.cells (Xk (asS (Qj (evT c.gl s.fs x)))))).put d (.sl 1 s.n 0 (asS (Qj (evT c.gl s.fs x))).length (asS (Qj (evT c.gl s.fs x))).length))):Yc P c (.pd (some d) .s2b [x] none) r0 K s:=.inl ⟨_,_,Qri h.1 h.2.1 h.2.2.1,h.2.2.2⟩
theorem Qf8 {anc:List Nat} {fs:List Foot} {r0:List TOp} {K:St→Prop} {s:St} {d:Nat} {x:TV} (h:cok none (evT c.gl s.fs x)∧s.fs.H s.n=.free∧(Qny (Qj (evT c.gl s.fs x))∧(asS (Qj (evT c.gl s.fs x))).length≤9223372036854775807) ∧
  XD P c anc r0 (⟨Xj [x],[s.n],[d],[s.n]⟩::fs) K ((s.nw (.cells (Xk (asS (Qj (evT c.gl s.fs x)))))).put d (.sl 1 s.n 0 (asS (Qj (evT c.gl s.fs x))).length (asS (Qj (evT c.gl s.fs x))).length))):Za P c anc (.pd (some d) .s2b [x] none) r0 fs K s:=⟨_,_,Qri h.1 h.2.1 h.2.2.1,h.2.2.2⟩
end
theorem Xez (s:FS) (es m:Nat) (ds:List AV):Xt s es (.isl m ds)=ds.take (m * es):=rfl
theorem Xo0 (s:FS) (es es2 b o m c:Nat):Xt s es (.sl es2 b o m c)=((Yo (s.H b)).drop o).take (m * es):=rfl
theorem Xbq (s:FS) (es:Nat) (l:List UInt8):Xt s es (.str l)=Xk l:=rfl
theorem Qwe (s:FS) (es:Nat):Xt s es .nils=[]:=rfl
theorem Qwo (s:FS) (es m:Nat) (b:Bool) (ds:List AV):Us s es b (.isl m ds)=(b=false∧m * es≤ds.length):=rfl
theorem Xdv (s:FS) (es es2 k o m c:Nat) (b:Bool):Us s es b (.sl es2 k o m c)=(b=false∧es2=es∧o + m * es≤(Yo (s.H k)).length):=rfl
theorem Qw6 (s:FS) (es:Nat) (b:Bool) (l:List UInt8):Us s es b (.str l)=(b=true∧es=1):=rfl
theorem Qwg (s:FS) (es:Nat) (b:Bool) (a:Option Addr) (c:Nat):Us s es b (.lit (.slice a 0 c))=(b=false):=by simp[Us,Qr5]
theorem Xaj (v:Value):Xh (.lit v)=0:=rfl
theorem Xc5 (v:Value):Uu (.lit v)=none:=rfl
theorem Xef (s:FS) (es:Nat) (v:Value):Xt s es (.lit v)=[]:=rfl
theorem Qvg (s:FS) (es:Nat) (b:Bool):Us s es b .nils=(b=false):=rfl
theorem Qxc (s:FS) (es es2 b o n c:Nat):Qd9 s es (.sl es2 b o n c)=(es2=es∧o=0∧n * es≤(Yo (s.H b)).length∧(s.H b).live):=rfl
theorem Qqn (s:FS) (es:Nat):Qd9 s es .nils=True:=rfl
theorem Xj8 (es b o n c:Nat):Uu (.sl es b o n c)=some b:=rfl
theorem Qxg:Uu .nils=none:=rfl
theorem Xd9 (n:Nat) (cs:List AV):Uu (.isl n cs)=none:=rfl
theorem Xfy (l:List UInt8):Uu (.str l)=none:=rfl
theorem Xtp (s:FS) (es by_ nm:Nat) (b:Bool) (x y:AV):Qr3 s es by_ b nm [x,y]=(Qd9 s es x∧Us s es b y∧s.H nm=.free∧Xh x + Xh y≤9223372036854775807∧(Xh x + Xh y) * by_≤140737488355328):=rfl
theorem Xyn (es nm:Nat) (x y:AV):Xq5 es nm [x,y]=.sl es nm 0 (Xh x + Xh y) (Xh x + Xh y):=rfl
theorem Xzk (s:FS) (es:Nat) (x y:AV):Qtj s es [x,y]=Xt s es x++Xt s es y:=rfl
theorem Xzd (x:AV) (r:List AV):Xet (x::r)=Uu x:=rfl
theorem Xxz (x y:AV):Qs3 [x,y]=(Uu x).toList++(Uu y).toList:=rfl
theorem Xu0 (s:St) (b:Nat):s.killO (some b)=s.putB b .dead:=rfl
theorem Xv2 (s:St):s.killO none=s:=rfl
theorem Xwg (z:List AV):Qaa 0 z=[]:=rfl
theorem Xtk (n:Nat) (z:List AV):Qaa (n + 1) z=z++Qaa n z:=rfl
theorem Xv1 (l:List UInt8):Qny (.str l)=True:=rfl
theorem Xxp (cs:List AV):(Bk.cells cs).live=True:=rfl
theorem Qhj (l:List UInt8) (n:Int) (r:List AV):Xk l++(.int .u8 (IntKind.u8.wrap n)::r)=Xk (l++[UInt8.ofNat (IntKind.u8.wrap n).toNat])++r:=by
 have h0:0≤IntKind.u8.wrap n∧IntKind.u8.wrap n < 256:=by rw[IntKind.wrap_u8];omega
 generalize IntKind.u8.wrap n=k at h0 ⊢
 simp[Xk];omega
theorem Xn2 {l:List UInt8} {n:Int} {r:List AV} (h0:0≤n) (h1:n < 256):Xk l++(.int .u8 n::r)=Xk (l++[UInt8.ofNat n.toNat])++r:=by
 simp[Xk];omega
theorem Xp9:Xk []=[]:=rfl
theorem Xow:Qp []=[]:=rfl
theorem Xn1 {l:List Int} {n:Int} {r:List AV}:Qp l++(.int .i64 n::r)=Qp (l++[n])++r:=by simp[Qp]
attribute [go_sem] Qov Xqw Xrc Xkl Xez Xo0 Xbq Qwe Qwo Xdv Qw6 Qvg Qwg Xaj Xc5 Xef Qxc Qqn Xj8 Qxg Xd9 Xfy Xtp Xyn Xzk Xzd Xxz Xu0 Xv2 Xwg Xtk Xv1 Xxp Qhj Xn2 Xn1 Xp9 Xow Qkc Qn7 List.append_nil List.length_append Xq8 Xt0
def Jm (r:AV):Prop:=∀ (g g':Nat→GM) (W W':Nat→Prop) (w w':World) (v:Value),VR g W w r v→VR g' W' w' r v
theorem Jm.int (k:IntKind) (n:Int):Jm (.int k n):=fun _ _ _ _ _ _ _ h=>by cases h;exact .int _ _
theorem Jm.bool (b:Bool):Jm (.bool b):=fun _ _ _ _ _ _ _ h=>by cases h;exact .bool _
theorem Jm.str (l:List UInt8):Jm (.str l):=fun _ _ _ _ _ _ _ h=>by cases h;exact .str _
theorem Jm.tup {cs:List AV} (h:∀ x ∈ cs,Jm x):Jm (.tup cs):=fun g g' W W' w w' v hv=>by
 obtain ⟨us,rfl,h1,h3⟩:=Qh1 hv
 refine .tup h1 fun j hj=>?_
 refine h _ ?_ _ _ _ _ _ _ _ (h3 j hj)
 simp only[List.getD,List.getElem?_eq_getElem hj,Option.getD_some];exact List.getElem_mem hj
def Qh6:AV→List Nat
 | .sl _ b _ _ _=>[b]
 | _=>[]
def Qn9:AV→List Nat
 | .agg cs=>cs.flatMap Qh6
 | v=>Qh6 v
theorem Qmf {s s2:FS}:∀ {v:AV},(∀ b ∈ Qh6 v,s2.H b=s.H b)→Yi s2 v=Yi s v:=fun {v} h=>by
 cases v<;>simp only[Yi]
 rw[h _ (by simp[Qh6])]
theorem Xfi {s s2:FS} {v:AV} (h:∀ b ∈ Qn9 v,s2.H b=s.H b):Ys s2 v=Ys s v:=by
 cases v<;>simp only[Ys]
 case agg cs =>
  congr 1
  refine List.map_congr_left fun x hx=>Qmf fun b hb=>h b ?_
  simp only[Qn9,List.mem_flatMap];exact ⟨x,hx,hb⟩
 all_goals exact Qmf h
section
variable {P:Program} {c:Cx}
def Qbo (s:FS) (gl:Nat→AV) (d:Option Nat) (xs:List TV) (gd:Option (Nat × Bool)):Foot:=⟨gdT gd++Xj xs,((evs gl s xs).map Qj).flatMap Qn9,d.toList,[]⟩
theorem Qz2 {g g':Nat→GM} {W W':Nat→Prop} {w:World} {f:AV→AV}:∀ {xs:List AV} {vs:List Value},VRs g W w xs vs→(∀ x ∈ xs,∀ v,VR g W w x v→VR g' W' w (f x) v)→VRs g' W' w (xs.map f) vs
 | [],[],_,_=>trivial
 | x::xs,v::vs,h,k=>⟨k x Zsi v h.1,Qz2 h.2 fun y hy=>k y (by simp[hy])⟩
 | [],_::_,h,_=>h.elim
 | _::_,[],h,_=>h.elim
theorem Qs9 {s:St} {d:Option Nat} {f:FuncId} {xs:List TV} {gd:Option (Nat × Bool)} {args:List AV} {r:AV} (hok:Wt c.gl s.fs xs gd) (hargs:((evs c.gl s.fs xs).map Qj).map (Ys s.fs)=args) (hnm:nmAll 0 args) (hfl:Jm r)
  (hps:ob (gB s.fs gd) (PS P c.gl f args r)):Kj P c (.pd d (.call f) xs gd) s.fs (Qbo s.fs c.gl d xs gd) (s.putO d (cw (gB s.fs gd) r)).fs:=by
 intro ops io he
 obtain ⟨hgd,hdst,hd,ys,hel,rfl⟩:=Zd he
 obtain ⟨ts,hop⟩:=Qcy hel
 have hput:(s.putO d (cw (gB s.fs gd) r)).fs=match d with|some d=>s.fs.put d (cw (gB s.fs gd) r)|none=>s.fs:=by
  cases d with
  | none=>rfl
  | some d=>exact St.fs_put _ _ _
 rw[hput]
 refine ⟨fun i hi=>?_,fun b _=>by cases d<;>rfl,?_⟩
 ·cases d with
  | none=>rfl
  | some d=>show (s.fs.put d _).T i=_;rw[FS.T_put,if_neg (fun e=>hi (by simp[Qbo,e]))]
 ·intro s2 hT hH g a w hR K Q' hK
  have hevs:evs c.gl s2 (ys.map tvO)=evs c.gl s.fs (ys.map tvO):=Ye fun i hi=>hT i (by simp[Qbo,hi])
  have hg:∀ t b,gd=some (t,b)→s2.T t=s.fs.T t:=fun t b e=>hT t (by simp[Qbo,e,gdT])
  have hgB:gB s2 gd=gB s.fs gd:=by
   cases gd with
   | none=>rfl
   | some p=>obtain ⟨t,b⟩:=p;simp only[gB,hg t b rfl]
  have hgO:gOk s2 gd:=by
   have:=hok.1
   cases gd with
   | none=>exact this
   | some p=>obtain ⟨t,b⟩:=p;simpa only[gOk,hg t b rfl] using this
  have hK':∀ v w',Fr w w' (fun _=>False)→VR g (Qn c g s2) w' (cw (gB s.fs gd) r) v→K (a.put io.dst v) w':=fun v w' hf hv=>by
   rw[hdst]
   have hR':=hR.grow hf
   cases d with
   | none =>
    refine hK g _ w' ?_
    have:ovr s2 s.fs (Qbo s.fs c.gl none (ys.map tvO) gd)=s2:=by unfold ovr Qbo;simp
    simp only[this];exact hR'
   | some d =>
    refine hK g _ w' ?_
    show R c g (ovr s2 (s.fs.put d _) ⟨gdT gd++Xj (ys.map tvO),_,[d],[]⟩) _ _
    rw[Qdo]
    exact hR'.put (by simpa using hd) hv
  unfold Qan
  rw[Qb9 hgd hR hgO,hgB]
  have run:(∀ b,gB s.fs gd=some b→b=true)→io.wp P a w K Q':=by
   intro hb
   have hc1:Qt none (evs c.gl s2 (ys.map tvO)):=by
    rw[hevs]
    have:=hok.2
    cases hgb:gB s.fs gd with
    | none=>rw[hgb]at this;exact this
    | some b=>rw[hgb]at this;exact Qaw (hb b hgb) this
   have hps':PS P c.gl f args r:=by
    cases hgb:gB s.fs gd with
    | none=>rw[hgb]at hps;exact hps
    | some b=>rw[hgb]at hps;exact hps (hb b hgb)
   have hv:=Yh (hR.evs ys) hc1
   rw[hevs]at hv
   have hcg:∀ x ∈ (evs c.gl s.fs (ys.map tvO)).map Qj,Ys s2 x=Ys s.fs x:=fun x hx=>Xfi fun b hb=>hH b (by simp only[Qbo,List.mem_flatMap];exact ⟨x,hx,hb⟩)
   have hv':VRs (fun _=>.un) c.X w args (ys.map a.eval):=by
    rw[← hargs]at hnm ⊢
    refine Qz2 hv fun x hx v h=>?_
    have hn:=Xi.1 hnm (Ys s.fs x) (List.mem_map_of_mem hx)
    rw[← hcg x hx]at hn ⊢
    exact Qpc hR h hn
   have hX:∀ k,c.X k→k < w.heap.size:=fun k h=>by have:=(hR.xs k h).1;have:=hR.fr.size;omega
   have hgl:∀ i,VR (fun _=>.un) c.X w (c.gl i) (.pointer (some ⟨i,0,none⟩)):=fun i=>(hR.gl i).mono (Fr.refl _ _) (fun k _ h=>.inl h) (fun _ _=>rfl)
   have hcall:=hps'.2 w _ _ hX hgl hv'
   unfold Oper.wp
   rw[Qdz hps'.1 hop]
   rw[Oper.upon_enter]
   refine hcall.mono fun e w' ⟨v,e1,e2,e3⟩=>?_
   subst e1
   refine hK' v w' e3 ?_
   have hv2:VR g (Qn c g s2) w' r v:=hfl _ _ _ _ _ _ _ e2
   cases hgb:gB s.fs gd with
   | none=>exact hv2
   | some b=>exact .cnd (fun _=>hv2) fun h=>by rw[hb b hgb]at h;cases h
  cases hgb:gB s.fs gd with
  | none=>simp only[Option.getD_none,if_true];exact run fun b h=>by rw[hgb]at h;cases h
  | some b =>
   cases b with
   | true=>simp only[Option.getD_some,if_true];exact run fun b h=>by rw[hgb]at h;cases h;rfl
   | false =>
    simp only[Option.getD_some,Bool.false_eq_true,if_false]
    refine hK' undef w (Fr.refl _ _) ?_
    rw[hgb]
    exact .cnd (fun h=>by cases h) fun _=>rfl
theorem Wg {r0:List TOp} {K:St→Prop} {s:St} {d:Option Nat} {f:FuncId} {xs:List TV} {gd:Option (Nat × Bool)} {args:List AV} {r:AV} (hargs:((evs c.gl s.fs xs).map Qj).map (Ys s.fs)=args) (hps:PS P c.gl f args r) (hfl:Jm r)
  (hok:Wt c.gl s.fs xs gd∧nmAll 0 args∧XP P c r0 K (s.putO d (cw (gB s.fs gd) r))):Yc P c (.pd d (.call f) xs gd) r0 K s:=.inl ⟨_,_,Qs9 hok.1 hargs hok.2.1 hfl (Qhk hps),hok.2.2⟩
theorem Ke {anc:List Nat} {fs:List Foot} {r0:List TOp} {K:St→Prop} {s:St} {d:Option Nat} {f:FuncId} {xs:List TV} {gd:Option (Nat × Bool)} {args:List AV} {r:AV} (hargs:((evs c.gl s.fs xs).map Qj).map (Ys s.fs)=args) (hps:PS P c.gl f args r) (hfl:Jm r)
  (hok:Wt c.gl s.fs xs gd∧nmAll 0 args∧XD P c anc r0 (Qbo s.fs c.gl d xs gd::fs) K (s.putO d (cw (gB s.fs gd) r))):Za P c anc (.pd d (.call f) xs gd) r0 fs K s:=⟨_,_,Qs9 hok.1 hargs hok.2.1 hfl (Qhk hps),hok.2.2⟩
end
theorem Qwv (es b o n c:Nat):Qh6 (.sl es b o n c)=[b]:=rfl
attribute [go_sem] Qbo Qwv Qh6 Qn9 List.flatMap_cons List.flatMap_nil
section
variable {P:Program} {c:Cx} {g g':Nat→GM} {s:FS} {a:Act} {w w':World} {W W':Nat→Prop}
structure Fit (σ:Nat→Nat) (s:FS) (hin:List (Nat × Bk)) (m:Nat):Prop where
 mem:∀ p ∈ hin,p.1 < m∧nmB m p.2∧s.H (σ p.1)=Xf σ p.2
 inj:∀ p ∈ hin,∀ q ∈ hin,σ p.1=σ q.1→p.1=q.1
def Qd8 (g:Nat→GM) (σ:Nat→Nat) (hin:List (Nat × Bk)) (m:Nat) (k:Nat):Prop:=∃ b,(Qb hin m b).live∧g (σ b)=.re k
def Yaz (c:Cx) (g:Nat→GM) (s:FS) (G:Nat→Prop) (k:Nat):Prop:=Qn c g s k∧¬ G k
def Qc8 (c:Cx) (g:Nat→GM) (s:FS) (w:World) (σ:Nat→Nat) (hin:List (Nat × Bk)) (m:Nat):Cx:=⟨0,w,Qd8 g σ hin m,Yaz c g s (Qd8 g σ hin m),c.gl,[]⟩
theorem Ua {h:List (Nat × Bk)} {m b:Nat} (hl:(Qb h m b).live):∃ p ∈ h,p.1=b∧Qb h m b=p.2:=by
 rcases Zs h m b with e|e
 ·rw[e]at hl;split at hl<;>exact hl.elim
 ·exact e
open Classical in
theorem Xen {σ:Nat→Nat} {hin:List (Nat × Bk)} {m:Nat} (hR:R c g s a w) (fit:Fit σ s hin m):∃ g1:Nat→GM,(∀ b,b < m→g (σ b)≠.un→g (σ b)=g1 b) ∧
  R (Qc8 c g s w σ hin m) g1 (⟨[],hin,m⟩:St).fs ⟨#[],[]⟩ w∧(∀ k,Qn (Qc8 c g s w σ hin m) g1 (⟨[],hin,m⟩:St).fs k→Qn c g s k):=by
 let g1:Nat→GM:=fun b=>if b < m then (if g (σ b)=.un then .ph else g (σ b)) else .un
 have hg1:∀ b,b < m→g (σ b)≠.un→g (σ b)=g1 b:=fun b hb h=>by simp only[g1,if_pos hb,if_neg h]
 have hge:∀ b,m≤b→g1 b=.un:=fun b hb=>by simp only[g1];rw[if_neg Zom]
 have hne:∀ b,b < m→g1 b≠.un:=fun b hb=>by
  simp only[g1,if_pos hb]
  split
  ·intro h;cases h
  ·assumption
 have hlv:∀ b,(Qb hin m b).live→b < m∧(s.H (σ b)).live∧g1 b=g (σ b):=fun b hl=>by
  obtain ⟨p,hp,rfl,e⟩:=Ua hl
  obtain ⟨h1,h2,h3⟩:=fit.mem p hp
  have hlv:(s.H (σ p.1)).live:=by rw[h3,Qcs];exact Xe h2
  refine ⟨h1,hlv,(hg1 _ h1 fun e=>?_).symm⟩
  have:=hR.h (σ p.1)
  rw[e]at this
  generalize s.H (σ p.1)=x at this hlv
  exact this.ne_un hlv
 have hW:∀ k,Qn (Qc8 c g s w σ hin m) g1 (⟨[],hin,m⟩:St).fs k→Qn c g s k:=by
  rintro k (h|⟨b,h1,h2⟩)
  ·exact h.1
  ·obtain ⟨_,h4,h5⟩:=hlv b h1
   exact .inr ⟨σ b,h4,by rw[← h5];exact h2⟩
 refine ⟨g1,hg1,⟨rfl,rfl,fun i=>.any _,fun i=>(hR.gl i).mono (Fr.refl w _) (fun k _=>hW k) (fun _ _=>rfl),fun b=>?_,fun b b' k h1 h2 e1 e2=>?_,fun b k h1 e1=>?_,Fr.refl _ _,fun k hk=>⟨?_,hk.2⟩,fun p hp=>by cases hp⟩,hW⟩
 ·show BR g1 _ w _ (Qb hin m b)
  rcases Zs hin m b with h|⟨p,h1,rfl,h3⟩
  ·rw[h]
   split
   ·rename_i hb;exact .dead (hne b hb)
   ·rename_i hb;rw[hge b Zom];exact .free
  ·rw[h3]
   obtain ⟨q1,q2,q3⟩:=fit.mem p h1
   obtain ⟨_,_,e5⟩:=hlv p.1 (by rw[h3];exact Xe q2)
   rw[e5]
   have hbr:=hR.h (σ p.1)
   rw[q3]at hbr
   exact hbr.unren hg1 q2 hW
 ·obtain ⟨p1,hp1,rfl,_⟩:=Ua h1
  obtain ⟨p2,hp2,rfl,_⟩:=Ua h2
  obtain ⟨_,l1,d1⟩:=hlv _ h1
  obtain ⟨_,l2,d2⟩:=hlv _ h2
  exact fit.inj p1 hp1 p2 hp2 (hR.inj _ _ k l1 l2 (by rw[← d1];exact e1) (by rw[← d2];exact e2))
 ·obtain ⟨_,l1,d1⟩:=hlv _ h1
  exact .inr ⟨b,h1,by rw[← d1];exact e1⟩
 ·rcases hk.1 with h|⟨b',hl,hg'⟩
  ·have:=(hR.xs k h).1;have:=hR.fr.size;show k < w.heap.size;omega
  ·exact BR.lt (hg' ▸ hR.h b') hl
def Hst (h:List (Nat × Bk)) (n:Nat):FS:=(⟨[],h,n⟩:St).fs
def GS (P:Program) (gl:Nat→AV) (f:FuncId) (args:List AV) (hin:List (Nat × Bk)) (m:Nat) (r:AV) (hout:List (Nat × Bk)) (n:Nat):Prop :=
 Qdr P f∧∀ (w:World) (vs:List Value) (G X:Nat→Prop) (g:Nat→GM),R ⟨0,w,G,X,gl,[]⟩ g (Hst hin m) ⟨#[],[]⟩ w→VRs g (Qn ⟨0,w,G,X,gl,[]⟩ g (Hst hin m)) w args vs →
  Calls P f vs.toArray w fun e w'=>∃ v g',e=.returned v∧R ⟨0,w,G,X,gl,[]⟩ g' (Hst hout n) ⟨#[],[]⟩ w'∧(∀ b,b < m→g' b=g b)∧VR g' (Qn ⟨0,w,G,X,gl,[]⟩ g' (Hst hout n)) w' r v
def Xe0 (m:Nat) (rs:List RS) (r:AV) (hout:List (Nat × Bk)) (n:Nat):EX→St→Prop
 | .exit _,_=>False
 | _,s=>Wd s.fs rs∧∃ ρ,Qfe m ρ n∧Sub (rl ρ) ⟨[(0,rvs s.fs rs)],s.h,s.n⟩ ⟨[(0,r)],hout,n⟩
theorem Qm2 {w:World} {vs:List Value} {args:List AV} {N:Nat} (hN:args.length≤N) {G X:Nat→Prop} {gl:Nat→AV} {g:Nat→GM} {hin:List (Nat × Bk)} {m:Nat} {gh:List (Nat × GM)} (hR:R ⟨0,w,G,X,gl,[]⟩ g (Hst hin m) ⟨#[],[]⟩ w)
  (hv:VRs g (Qn ⟨0,w,G,X,gl,[]⟩ g (Hst hin m)) w args vs) (hpin:∀ p ∈ gh,g p.1=p.2∧p.2≠.un) :
  R ⟨N,w,G,X,gl,gh⟩ g (⟨Qaf 0 args,hin,m⟩:St).fs { tmps:=vs.toArray++Array.replicate (N - vs.toArray.size) undef,defers:=[] } w:=by
 have hl:=hv.length
 refine ⟨by simp;omega,rfl,fun i=>?_,hR.gl,hR.h,hR.inj,hR.old,hR.fr,hR.xs,hpin⟩
 show VR g _ w (look (Qaf 0 args) i) _
 rw[Qjo]
 split
 ·rename_i h
  have hi:i < vs.length:=by omega
  have:=hv.get i Zom
  have e:(vs.toArray++Array.replicate (N - vs.toArray.size) undef).getD i undef=vs.getD i undef:=by
   simp only[Array.getD_eq_getD_getElem?,List.getD]
   rw[Array.getElem?_append_left (by simpa using hi)]
   simp
  rw[e]
  have h2:VR g (Qn ⟨0,w,G,X,gl,[]⟩ g (Hst hin m)) w (args.getD (i - 0) .any) (vs.getD i undef):=by simpa using this
  exact h2
 ·exact .any _
theorem Xqa {gl : Nat → AV} {f : FuncId} {fn : Func} {code : Code} {t : TC} {rs : List RS} {args : List AV} {hin hout : List (Nat × Bk)} {m n : Nat} {r : AV} (hm : P.follows .mixedOrders = true) (hf : P.funcs[f]? = some fn) (hb : fn.body = some code) (hname : (fn.name == "runtime.NumGoroutine") = false)
  (he:Zz P fn.ntmps code=some t) (hr:Qbn P fn.results.toList=some rs) (hN:args.length≤fn.ntmps) (hlive:∀ p ∈ hin,p.2.live)
  (h:∀ c:Cx,(∀ p ∈ c.gh,p.1 < m)→c.gl=gl→xw P c t (Xe0 m rs r hout n) ⟨Qaf 0 args,hin,m⟩):GS P gl f args hin m r hout n:=by
 refine ⟨⟨fn,hf,by rw[hb];rfl,hname⟩,fun w vs G X g hR0 hv=>?_⟩
 refine calls_of_wp hf hb ?_
 have hun:∀ b,b < m→g b≠.un:=fun b hbm e=>by
  have:=hR0.h b
  rw[e]at this
  have hh:(Hst hin m).H b=Qb hin m b:=rfl
  rw[hh]at this
  rcases Zs hin m b with q|⟨p,hp,_,q⟩
  ·rw[q,if_pos hbm]at this;cases this;rename_i h;exact h rfl
  ·rw[q]at this
   have hl:=hlive p hp
   cases hx:p.2 with
   | free=>rw[hx]at hl;exact hl.elim
   | dead=>rw[hx]at hl;exact hl.elim
   | cells cs=>rw[hx]at this;cases this
   | mapb kvs dn=>rw[hx]at this;cases this
   | mapx kvs bs ck=>rw[hx]at this;cases this
   | iter b0 ck seen=>rw[hx]at this;cases this
   | bag ls=>rw[hx]at this;cases this with|bag _ h=>cases h
 have hpin:∀ p ∈ (List.range m).map (fun b=>(b,g b)),g p.1=p.2∧p.2≠.un:=fun p hp=>by
  obtain ⟨b,hbm,rfl⟩:=List.mem_map.1 hp
  exact ⟨rfl,hun b (List.mem_range.1 hbm)⟩
 have hgh:∀ p ∈ (List.range m).map (fun b=>(b,g b)),p.1 < m:=fun p hp=>by
  obtain ⟨b,hbm,rfl⟩:=List.mem_map.1 hp
  exact List.mem_range.1 hbm
 have hR:=Qm2 (N:=fn.ntmps) hN hR0 hv hpin
 have:=Qcn (c:=⟨fn.ntmps,w,G,X,gl,(List.range m).map (fun b=>(b,g b))⟩) hm code t _ _ he (h _ hgh rfl) _ _ _ hR
 refine wp_mono this fun e a' w' hq=>?_
 have fin:∀ (g1:Nat→GM) (s:St),R ⟨fn.ntmps,w,G,X,gl,(List.range m).map (fun b=>(b,g b))⟩ g1 s.fs a' w'→(Wd s.fs rs∧∃ ρ,Qfe m ρ n∧Sub (rl ρ) ⟨[(0,rvs s.fs rs)],s.h,s.n⟩ ⟨[(0,r)],hout,n⟩) →
   a'.defers=[]∧∃ v,(results fn a'.tmps).run P w'=.ok v w'∧(∃ v_1 g',Ending.returned v=.returned v_1∧R ⟨0,w,G,X,gl,[]⟩ g' (Hst hout n) ⟨#[],[]⟩ w'∧(∀ b,b < m→g' b=g b)∧VR g' (Qn ⟨0,w,G,X,gl,[]⟩ g' (Hst hout n)) w' r v_1):=by
  intro g1 s hR' ⟨h1,ρ,h2,h3⟩
  obtain ⟨v,h4,h5⟩:=Qe4 hR' hr h1
  refine ⟨hR'.def_,v,h4,v,?_⟩
  have hR1:R ⟨1,w,G,X,gl,(List.range m).map (fun b=>(b,g b))⟩ g1 (⟨[(0,rvs s.fs rs)],s.h,s.n⟩:St).fs ⟨#[v],[]⟩ w':=by
   refine ⟨rfl,rfl,fun i=>?_,hR'.gl,hR'.h,hR'.inj,hR'.old,hR'.fr,hR'.xs,hR'.pin⟩
   show VR g1 _ w' (look [(0,rvs s.fs rs)] i) _
   rw[Zt]
   split
   ·rename_i hi;subst hi;exact h5
   ·exact .any _
  obtain ⟨g2,hR2⟩:=h3.to hR1 (Qoh hgh h2)
  refine ⟨g2,rfl,⟨rfl,rfl,fun i=>.any _,hR2.gl,hR2.h,hR2.inj,hR2.old,hR2.fr,hR2.xs,fun p hp=>by cases hp⟩,fun b hb=>?_,?_⟩
  ·exact (hR2.pin (b,g b) (List.mem_map.2 ⟨b,List.mem_range.2 hb,rfl⟩)).1
  ·exact hR2.t 0
 cases e with
 | normal=>obtain ⟨g,s,hR',hq'⟩:=hq;exact fin g s hR' hq'
 | ret=>obtain ⟨g,s,hR',hq'⟩:=hq;exact fin g s hR' hq'
 | exit i=>obtain ⟨g,s,hR',hq'⟩:=hq;exact hq'.elim
 | goto l=>exact hq.elim
 | panic ch=>exact hq.elim
 | outgrown=>exact hq.elim
def Qec (σ:Nat→Nat):Bk→Bk
 | .dead=>.dead
 | x=>Xf σ x
theorem BR.ren {σ:Nat→Nat} {n:Nat} (hg:∀ b,b < n→g' (σ b)=g b) {mm:GM} {x:Bk} (h:BR g W w mm x) (hn:nmB n x) (hW:∀ k,W' k→W k):BR g' W' w mm (Xf σ x):=by
 have fwd:∀ {v u},Qe n v→VR g W w v u→VR g' W' w (Proofs.YtogckmommodmhaaGreatDoor.ren σ v) u:=fun hn h=>(h.ren (ρ:=σ) (g:=g') hg hn).mono (Fr.refl w W) (fun k _=>hW k) (fun _ _=>rfl)
 cases h with
 | free=>exact hn.elim
 | dead h=>exact hn.elim
 | ph=>simp only[Xf,rens];exact .ph
 | cells hb hl h1 hv hz =>
  simp only[Xf,nmB]at hn ⊢
  refine .cells hb (by rw[Yg];exact hl) (by rw[Yg];exact h1) (fun j hj=>?_) hz
  rw[Yg]at hj
  rw[Ka];exact fwd (Zn hn j) (hv j hj)
 | mapb hb hs hkk hv hc ha hd =>
  rename_i k kvs dn es clock
  simp only[Xf,nmB]at hn ⊢
  have hget:∀ j,j < kvs.length→(kvs.map fun p=>(Proofs.YtogckmommodmhaaGreatDoor.ren σ p.1,Proofs.YtogckmommodmhaaGreatDoor.ren σ p.2)).getD j (.any,.any)=(Proofs.YtogckmommodmhaaGreatDoor.ren σ (kvs.getD j (.any,.any)).1,Proofs.YtogckmommodmhaaGreatDoor.ren σ (kvs.getD j (.any,.any)).2):=fun j hj=>by simp[List.getD,hj]
  have hmem:∀ j,j < kvs.length→kvs.getD j (.any,.any) ∈ kvs:=fun j hj=>by simp[List.getD,hj]
  refine .mapb hb (by rw[List.length_map];exact hs) (fun j hj=>?_) (fun j hj=>?_) hc ha hd
  ·rw[List.length_map]at hj;rw[hget j hj];exact fwd (hn _ (hmem j hj)).1 (hkk j hj)
  ·rw[List.length_map]at hj;rw[hget j hj];exact fwd (hn _ (hmem j hj)).2 (hv j hj)
 | mapx hb hs hkk hv hc ha hd =>
  rename_i k kvs bs es clock
  simp only[Xf,nmB]at hn ⊢
  have hget:∀ j,j < kvs.length→(kvs.map fun p=>(Proofs.YtogckmommodmhaaGreatDoor.ren σ p.1,Proofs.YtogckmommodmhaaGreatDoor.ren σ p.2)).getD j (.any,.any)=(Proofs.YtogckmommodmhaaGreatDoor.ren σ (kvs.getD j (.any,.any)).1,Proofs.YtogckmommodmhaaGreatDoor.ren σ (kvs.getD j (.any,.any)).2):=fun j hj=>by simp[List.getD,hj]
  have hmem:∀ j,j < kvs.length→kvs.getD j (.any,.any) ∈ kvs:=fun j hj=>by simp[List.getD,hj]
  refine .mapx hb (by rw[List.length_map];exact hs) (fun j hj=>?_) (fun j hj=>?_) hc ha hd
  ·rw[List.length_map]at hj;rw[hget j hj];exact fwd (hn _ (hmem j hj)).1 (hkk j hj)
  ·rw[List.length_map]at hj;rw[hget j hj];exact fwd (hn _ (hmem j hj)).2 (hv j hj)
 | iter hb hg0 =>
  simp only[Xf,nmB]at hn ⊢
  exact .iter hb (by rw[hg _ hn];exact hg0)
 | bag hp h=>exact BR.bag_any (.bag hp h) hn hW
structure Back (σ:Nat→Nat) (s s3:FS) (hout:List (Nat × Bk)) (n:Nat):Prop where
 T:∀ i,s3.T i=s.T i
 H:∀ b,b < n→s3.H (σ b)=Qec σ (Qb hout n b)
 rest:∀ j,(∀ b,b < n→σ b≠j)→s3.H j=s.H j
open Classical in
noncomputable def Jk (g g2:Nat→GM) (σ:Nat→Nat) (n:Nat) (j:Nat):GM:=if h:∃ b,b < n∧σ b=j then g2 h.choose else g j
theorem Qpo {σ:Nat→Nat} {hin hout:List (Nat × Bk)} {m n:Nat} {s3:FS} {g1 g2:Nat→GM} (hR:R c g s a w) (fit:Fit σ s hin m) (hcov:∀ b,b < m→∃ p ∈ hin,p.1=b) (hmn:m≤n) (hinj:∀ b b',b < n→b' < n→σ b=σ b'→b=b') (hnew:∀ b,m≤b→b < n→s.H (σ b)=.free)
  (hnm:∀ p ∈ hout,nmB n p.2) (hlt:∀ p ∈ hout,p.1 < n) (hg1:∀ b,b < m→g (σ b)≠.un→g (σ b)=g1 b) (hg2:∀ b,b < m→g2 b=g1 b) (hR2:R (Qc8 c g s w σ hin m) g2 (Hst hout n) ⟨#[],[]⟩ w') (hb:Back σ s s3 hout n) :
  R c (Jk g g2 σ n) s3 a w'∧∀ {r:AV} {v:Value},Qe n r→VR g2 (Qn (Qc8 c g s w σ hin m) g2 (Hst hout n)) w' r v→VR (Jk g g2 σ n) (Qn c (Jk g g2 σ n) s3) w' (ren σ r) v:=by
 have gs:∀ b,b < n→Jk g g2 σ n (σ b)=g2 b:=fun b hbn=>by
  unfold Jk
  have hex:∃ b',b' < n∧σ b'=σ b:=⟨b,hbn,rfl⟩
  rw[dif_pos hex]
  rw[hinj _ _ hex.choose_spec.1 hbn hex.choose_spec.2]
 have go:∀ j,(∀ b,b < n→σ b≠j)→Jk g g2 σ n j=g j:=fun j h=>by
  unfold Jk
  rw[dif_neg]
  rintro ⟨b,h1,h2⟩;exact h b h1 h2
 have named:∀ b,b < m→g (σ b)≠.un:=fun b hbm e=>by
  obtain ⟨p,hp,rfl⟩:=hcov b hbm
  obtain ⟨_,q2,q3⟩:=fit.mem p hp
  have:=hR.h (σ p.1)
  rw[e,q3]at this
  have hl:(Xf σ p.2).live:=Qcs.2 (Xe q2)
  generalize Xf σ p.2=x at this hl
  exact this.ne_un hl
 have gm:∀ b,b < m→g2 b=g (σ b):=fun b hbm=>by rw[hg2 b hbm,← hg1 b hbm (named b hbm)]
 have gk:∀ j,g j≠.un→Jk g g2 σ n j=g j:=fun j hj=>by
  by_cases h:∃ b,b < n∧σ b=j
  ·obtain ⟨b,hbn,rfl⟩:=h
   rw[gs b hbn]
   by_cases hbm:b < m
   ·exact gm b hbm
   ·have:=hR.h (σ b)
    rw[hnew b Zom hbn]at this
    generalize g (σ b)=x at this hj
    cases this;exact (hj rfl).elim
  ·exact go j fun b h1 h2=>h ⟨b,h1,h2⟩
 have lout:∀ b,(Qb hout n b).live→b < n:=fun b hl=>by
  obtain ⟨p,hp,rfl,_⟩:=Ua hl
  exact hlt p hp
 have lin:∀ b,(Qb hin m b).live→b < m:=fun b hl=>by
  obtain ⟨p,hp,rfl,_⟩:=Ua hl
  exact (fit.mem p hp).1
 have linS:∀ b,(Qb hin m b).live→(s.H (σ b)).live:=fun b hl=>by
  obtain ⟨p,hp,rfl,_⟩:=Ua hl
  obtain ⟨_,q2,q3⟩:=fit.mem p hp
  rw[q3,Qcs];exact Xe q2
 have live3:∀ j,(s3.H j).live→(∃ b,b < n∧σ b=j∧(Qb hout n b).live)∨((∀ b,b < n→σ b≠j)∧(s.H j).live):=fun j hl=>by
  by_cases h:∃ b,b < n∧σ b=j
  ·obtain ⟨b,hbn,rfl⟩:=h
   rw[hb.H b hbn]at hl
   refine .inl ⟨b,hbn,rfl,?_⟩
   cases hx:Qb hout n b with
   | free=>rw[hx]at hl;exact hl.elim
   | dead=>rw[hx]at hl;exact hl.elim
   | cells cs=>trivial
   | mapb kvs dn=>trivial
   | mapx kvs bs ck=>trivial
   | iter b0 ck seen=>trivial
   | bag ls=>trivial
  ·have hno:∀ b,b < n→σ b≠j:=fun b h1 h2=>h ⟨b,h1,h2⟩
   rw[hb.rest j hno]at hl
   exact .inr ⟨hno,hl⟩
 -- memory of a block that comes back
 have mem2:∀ b k,(Qb hout n b).live→g2 b=.re k→w.heap.size≤k∨∃ b0,(Qb hin m b0).live∧g (σ b0)=.re k:=fun b k hl hk=>hR2.old b k hl hk
 have hf:Fr w w' (Qd8 g σ hin m):=hR2.fr
 have hGW:∀ k,Qd8 g σ hin m k→Qn c g s k:=fun k ⟨b,h1,h2⟩=>.inr ⟨σ b,linS b h1,h2⟩
 have hfW:Fr w w' (Qn c g s):=hf.weak hGW
 have oth:∀ j k,(∀ b,b < n→σ b≠j)→(s.H j).live→g j=.re k→¬ Qd8 g σ hin m k:=fun j k h1 h2 h3 ⟨b,q1,q2⟩ =>
  h1 b (Nat.lt_of_lt_of_le (lin b q1) hmn) (hR.inj (σ b) j k (linS b q1) h2 q2 h3)
 have hW3:∀ k,k < w.heap.size→Qn c (Jk g g2 σ n) s3 k→Qn c g s k:=by
  rintro k hk (h|⟨j,h1,h2⟩)
  ·exact .inl h
  ·rcases live3 j h1 with ⟨b,hbn,rfl,hl⟩|⟨hno,hl⟩
   ·rw[gs b hbn]at h2
    rcases mem2 b k hl h2 with h|⟨b0,q1,q2⟩
    ·omega
    ·exact hGW k ⟨b0,q1,q2⟩
   ·rw[go j hno]at h2;exact .inr ⟨j,hl,h2⟩
 have hW2:∀ k,Qn c (Jk g g2 σ n) s3 k→Qn (Qc8 c g s w σ hin m) g2 (Hst hout n) k:=by
  rintro k (h|⟨j,h1,h2⟩)
  ·refine .inl ⟨.inl h,fun ⟨b,q1,q2⟩=>?_⟩
   obtain ⟨x1,x2⟩:=hR.xs k h
   rcases hR.old (σ b) k (linS b q1) q2 with h|h
   ·omega
   ·exact x2 h
  ·rcases live3 j h1 with ⟨b,hbn,rfl,hl⟩|⟨hno,hl⟩
   ·rw[gs b hbn]at h2;exact .inr ⟨b,hl,h2⟩
   ·rw[go j hno]at h2;exact .inl ⟨.inr ⟨j,hl,h2⟩,oth j k hno hl h2⟩
 refine ⟨⟨hR.size,hR.def_,fun i=>?_,fun i=>(hR.gl i).mono hfW hW3 (fun _ _=>rfl),fun j=>?_,fun j j' k h1 h2 e1 e2=>?_,fun j k h1 e1=>?_,hR.fr.trans hf fun k hk ⟨b,q1,q2⟩=>?_,hR.xs,fun p hp=>?_⟩,fun {r v} hn hv=>?_⟩
 ·rw[hb.T];exact (hR.t i).mono hfW hW3 gk
 ·by_cases h:∃ b,b < n∧σ b=j
  ·obtain ⟨b,hbn,rfl⟩:=h
   rw[hb.H b hbn,gs b hbn]
   have hbr:=hR2.h b
   have e:(Hst hout n).H b=Qb hout n b:=rfl
   rw[e]at hbr
   rcases Zs hout n b with q|⟨p,hp,_,q⟩
   ·rw[q,if_pos hbn]at hbr ⊢
    generalize g2 b=x at hbr ⊢
    cases hbr with
    | dead h=>exact .dead h
   ·rw[q]at hbr ⊢
    have hnb:=hnm p hp
    have:Qec σ p.2=Xf σ p.2:=by
     cases hx:p.2<;>first|rfl|(rw[hx]at hnb;exact hnb.elim)
    rw[this]
    exact hbr.ren (g':=Jk g g2 σ n) gs hnb hW2
  ·have hno:∀ b,b < n→σ b≠j:=fun b h1 h2=>h ⟨b,h1,h2⟩
   rw[hb.rest j hno,go j hno]
   refine (hR.h j).mono hfW hW3 gk fun k hk hl=>hf.keep k ?_ (oth j k hno hl hk)
   exact BR.lt (hk ▸ hR.h j) hl
 ·rcases live3 j h1 with ⟨b,hbn,rfl,hl⟩|⟨hno,hl⟩<;>rcases live3 j' h2 with ⟨b',hbn',rfl,hl'⟩|⟨hno',hl'⟩
  ·rw[gs b hbn]at e1;rw[gs b' hbn']at e2
   rw[hR2.inj b b' k hl hl' e1 e2]
  ·rw[gs b hbn]at e1;rw[go j' hno']at e2
   have hlt:=BR.lt (e2 ▸ hR.h j') hl'
   rcases mem2 b k hl e1 with h|hG
   ·omega
   ·exact (oth j' k hno' hl' e2 hG).elim
  ·rw[gs b' hbn']at e2;rw[go j hno]at e1
   have hlt:=BR.lt (e1 ▸ hR.h j) hl
   rcases mem2 b' k hl' e2 with h|hG
   ·omega
   ·exact (oth j k hno hl e1 hG).elim
  ·rw[go j hno]at e1;rw[go j' hno']at e2
   exact hR.inj j j' k hl hl' e1 e2
 ·rcases live3 j h1 with ⟨b,hbn,rfl,hl⟩|⟨hno,hl⟩
  ·rw[gs b hbn]at e1
   rcases mem2 b k hl e1 with h|⟨b0,q1,q2⟩
   ·have:=hR.fr.size;exact .inl Zom
   ·exact hR.old (σ b0) k (linS b0 q1) q2
  ·rw[go j hno]at e1;exact hR.old j k hl e1
 ·rcases hR.old (σ b) k (linS b q1) q2 with h|h
  ·omega
  ·exact h
 ·obtain ⟨q1,q2⟩:=hR.pin p hp
  exact ⟨by rw[gk p.1 (by rw[q1];exact q2),q1],q2⟩
 ·exact (hv.ren (ρ:=σ) (g:=Jk g g2 σ n) gs hn).mono (Fr.refl _ _) (fun k _=>hW2 k) (fun _ _=>rfl)
end
def sg (ins:List Nat) (m n0:Nat) (b:Nat):Nat:=if b < m then ins.getD b 0 else n0 + (b - m)
def Qrs (σ:Nat→Nat) (s:FS) (m:Nat):List (Nat × Bk)→Prop
 | []=>True
 | (b,x)::r=>b < m∧nmB m x∧s.H (σ b)=Xf σ x∧Qrs σ s m r
def Qe2:List Nat→Bool
 | []=>true
 | x::r=>r.all (fun y=>!(Nat.beq x y)) && Qe2 r
def Qlo (ins:List Nat) (m n0:Nat):Bool:=(ins.length == m) && Qe2 ins && ins.all (fun j=>decide (j < n0))
def Qnf (s:FS):List Nat→Prop
 | []=>True
 | j::r=>s.H j=.free∧Qnf s r
def Qnq (n:Nat):List (Nat × Bk)→Prop
 | []=>True
 | (b,x)::r=>b < n∧nmB n x∧Qnq n r
def Qp5 (n0:Nat):Nat→List Nat
 | 0=>[]
 | k + 1=>Qp5 n0 k++[n0 + k]
def Ux (n0 m n:Nat):List Nat:=Qp5 n0 (n - m)
theorem Qac {n0 j:Nat}:∀ {k:Nat},j ∈ Qp5 n0 k ↔ ∃ i,i < k∧n0 + i=j
 | 0=>by simp[Qp5]
 | k + 1=>by
  simp only[Qp5,List.mem_append,Qac (k:=k),List.mem_singleton]
  constructor
  ·rintro (⟨i,h,rfl⟩|rfl)
   ·exact ⟨i,by omega,rfl⟩
   ·exact ⟨k,by omega,rfl⟩
  ·rintro ⟨i,h,rfl⟩
   by_cases hk:i=k
   ·subst hk;exact .inr rfl
   ·exact .inl ⟨i,by omega,rfl⟩
def idx:List (Nat × Bk)→List Nat
 | []=>[]
 | p::r=>p.1::idx r
def upto:Nat→List Nat
 | 0=>[]
 | n + 1=>upto n++[n]
structure GsOk (s:FS) (n0:Nat) (ins:List Nat) (args:List AV) (hin:List (Nat × Bk)) (m:Nat) (r:AV) (hout:List (Nat × Bk)) (n:Nat):Prop where
 fit:Qrs (sg ins m n0) s m hin
 cov:idx hin=upto m
 ins:Qlo ins m n0=true
 free:Qnf s (Ux n0 m n)
 out:Qnq n hout
 le:m≤n
 nr:Qe n r
 na:nmAll m args
theorem Qlk {σ:Nat→Nat} {s:FS} {m:Nat}:∀ {h:List (Nat × Bk)},Qrs σ s m h→∀ p ∈ h,p.1 < m∧nmB m p.2∧s.H (σ p.1)=Xf σ p.2
 | [],_,p,hp=>by cases hp
 | (b,x)::r,h,p,hp=>by
  rcases List.mem_cons.1 hp with rfl|hp
  ·exact ⟨h.1,h.2.1,h.2.2.1⟩
  ·exact Qlk h.2.2.2 p hp
theorem Qgf {n:Nat}:∀ {h:List (Nat × Bk)},Qnq n h→∀ p ∈ h,p.1 < n∧nmB n p.2
 | [],_,p,hp=>by cases hp
 | (b,x)::r,h,p,hp=>by
  rcases List.mem_cons.1 hp with rfl|hp
  ·exact ⟨h.1,h.2.1⟩
  ·exact Qgf h.2.2 p hp
theorem Qj0 {s:FS}:∀ {l:List Nat},Qnf s l→∀ j ∈ l,s.H j=.free
 | [],_,j,hj=>by cases hj
 | x::l,h,j,hj=>by
  rcases List.mem_cons.1 hj with rfl|hj
  ·exact h.1
  ·exact Qj0 h.2 j hj
theorem Qt1:∀ h:List (Nat × Bk),idx h=h.map (·.1)
 | []=>rfl
 | p::r=>by simp[idx,Qt1 r]
theorem Qlh:∀ {n b:Nat},b ∈ upto n ↔ b < n
 | 0,b=>by simp[upto]
 | n + 1,b=>by simp[upto,Qlh (n:=n)];omega
theorem Qfw:∀ {l:List Nat},Qe2 l=true→∀ i j,i < l.length→j < l.length→l.getD i 0=l.getD j 0→i=j
 | [],_,i,j,hi,_,_=>by simp at hi
 | x::l,h,i,j,hi,hj,e=>by
  simp only[Qe2,Bool.and_eq_true]at h
  have hall:∀ y ∈ l,x≠y:=fun y hy exy=>by
   have:=List.all_eq_true.1 h.1 y hy
   subst exy;simp at this
  have hmem:∀ k,k < l.length→l.getD k 0 ∈ l:=fun k hk=>by simp only[List.getD,List.getElem?_eq_getElem hk,Option.getD_some];exact List.getElem_mem hk
  cases i with
  | zero =>
   cases j with
   | zero=>rfl
   | succ j=>simp only[List.getD_cons_zero,List.getD_cons_succ]at e;exact (hall _ (hmem j (by simpa using hj)) e).elim
  | succ i =>
   cases j with
   | zero=>simp only[List.getD_cons_zero,List.getD_cons_succ]at e;exact (hall _ (hmem i (by simpa using hi)) e.symm).elim
   | succ j=>simp only[List.getD_cons_succ]at e;rw[Qfw h.2 i j (by simpa using hi) (by simpa using hj) e]
theorem Qvt {ins:List Nat} {m n0:Nat} (h:Qlo ins m n0=true) {b b':Nat} (e:sg ins m n0 b=sg ins m n0 b'):b=b':=by
 simp only[Qlo,Bool.and_eq_true,beq_iff_eq,List.all_eq_true,decide_eq_true_eq]at h
 obtain ⟨⟨h1,h2⟩,h3⟩:=h
 have hmem:∀ k,k < m→ins.getD k 0 < n0:=fun k hk=>h3 _ (by simp only[List.getD,List.getElem?_eq_getElem (show k < ins.length by omega),Option.getD_some];exact List.getElem_mem _)
 unfold sg at e
 split at e<;>split at e
 ·exact Qfw h2 b b' Zom Zom e
 ·rename_i x y;have:=hmem b x;omega
 ·rename_i x y;have:=hmem b' y;omega
 ·omega
section
variable {P:Program} {c:Cx}
def outH (σ:Nat→Nat) (hout:List (Nat × Bk)) (n:Nat):Nat→List (Nat × Bk)
 | 0=>[]
 | k + 1=>(σ k,Qec σ (Qb hout n k))::outH σ hout n k
def Qbf (s:St) (d:Option Nat) (ins:List Nat) (m:Nat) (r:AV) (hout:List (Nat × Bk)) (n:Nat):St :=
 St.putO ⟨s.t,outH (sg ins m s.n) hout n n++s.h,s.n + (n - m)⟩ d (ren (sg ins m s.n) r)
def Qda (s:St) (d:Option Nat) (xs:List TV) (ins:List Nat) (m n:Nat):Foot:=⟨Xj xs,ins++Ux s.n m n,d.toList,ins++Ux s.n m n⟩
theorem Qge (h h2:List (Nat × Bk)) (n j:Nat):(∃ p ∈ h,p.1=j)∧(∃ p ∈ h,p.1=j∧Qb (h++h2) n j=p.2)∨(∀ p ∈ h,p.1≠j)∧Qb (h++h2) n j=Qb h2 n j:=by
 induction h with
 | nil=>right;exact ⟨fun p hp=>(by cases hp),rfl⟩
 | cons p r ih =>
  obtain ⟨i,x⟩:=p
  rw[List.cons_append,Qc]
  by_cases hi:i=j
  ·left
   rw[if_pos hi]
   exact ⟨⟨(i,x),by simp,hi⟩,(i,x),by simp,hi,rfl⟩
  ·rw[if_neg hi]
   rcases ih with ⟨⟨p,hp,e⟩,q,hq,e1,e2⟩|⟨h1,h2⟩
   ·exact .inl ⟨⟨p,by simp[hp],e⟩,q,by simp[hq],e1,e2⟩
   ·refine .inr ⟨fun p hp=>?_,h2⟩
    rcases List.mem_cons.1 hp with rfl|hp
    ·exact hi
    ·exact h1 p hp
theorem Qcg {σ:Nat→Nat} {hout:List (Nat × Bk)} {n:Nat}:∀ {k:Nat} {p:Nat × Bk},p ∈ outH σ hout n k ↔ ∃ b,b < k∧p=(σ b,Qec σ (Qb hout n b))
 | 0,p=>by simp[outH]
 | k + 1,p=>by
  simp only[outH,List.mem_cons,Qcg (k:=k)]
  constructor
  ·rintro (rfl|⟨b,hb,rfl⟩)
   ·exact ⟨k,by omega,rfl⟩
   ·exact ⟨b,by omega,rfl⟩
  ·rintro ⟨b,hb,rfl⟩
   by_cases h:b=k
   ·subst h;exact .inl rfl
   ·exact .inr ⟨b,by omega,rfl⟩
theorem Qeg {σ:Nat→Nat} {m:Nat} {g g1:Nat→GM} {W W':Nat→Prop} {w:World} (hg:∀ b,b < m→g (σ b)≠.un→g (σ b)=g1 b) (hW:∀ k,W' k→W k):∀ {args:List AV} {vs:List Value},nmAll m args→VRs g W w (rens σ args) vs→VRs g1 W' w args vs
 | [],[],_,_=>trivial
 | x::xs,v::vs,hn,h=>by
  rw[Yf,List.map_cons,← Yf]at h
  exact ⟨(h.1.unren hg x rfl hn.1).mono (Fr.refl _ _) (fun k _=>hW k) (fun _ _=>rfl),Qeg hg hW hn.2 h.2⟩
 | [],_::_,_,h=>by rw[Yf]at h;exact h.elim
 | _::_,[],_,h=>by rw[Yf]at h;exact h.elim
theorem Qzz {s:St} {d:Option Nat} {f:FuncId} {xs:List TV} {ins:List Nat} {args:List AV} {hin:List (Nat × Bk)} {m:Nat} {r:AV} {hout:List (Nat × Bk)} {n:Nat} (hgs:GS P c.gl f args hin m r hout n) (hc:Qt none (evs c.gl s.fs xs))
  (hargs:(evs c.gl s.fs xs).map Qj=rens (sg ins m s.n) args) (ok:GsOk s.fs s.n ins args hin m r hout n):Kj P c (.pd d (.call f) xs none) s.fs (Qda s d xs ins m n) (Qbf s d ins m r hout n).fs:=by
 intro ops io he
 obtain ⟨hgd,hdst,hd,ys,hel,rfl⟩:=Zd he
 obtain ⟨ts,hop⟩:=Qcy hel
 have hsg:∀ b b',b < n→b' < n→sg ins m s.n b=sg ins m s.n b'→b=b':=fun b b' _ _ e=>Qvt ok.ins e
 have hlen:ins.length=m:=by
  have:=ok.ins;simp only[Qlo,Bool.and_eq_true,beq_iff_eq]at this;exact this.1.1
 -- the names that are touched
 have hnames:∀ b,b < n→sg ins m s.n b ∈ ins++Ux s.n m n:=fun b hb=>by
  unfold sg
  split
  ·rename_i h
   refine List.mem_append_left _ ?_
   simp only[List.getD,List.getElem?_eq_getElem (show b < ins.length by omega),Option.getD_some];exact List.getElem_mem _
  ·refine List.mem_append_right _ ?_
   simp only[Ux,Qac];exact ⟨b - m,by omega,rfl⟩
 have hback:∀ j,j ∈ ins++Ux s.n m n→∃ b,b < n∧sg ins m s.n b=j:=fun j hj=>by
  rcases List.mem_append.1 hj with h|h
  ·obtain ⟨i,hi,rfl⟩:=List.getElem_of_mem h
   have:=ok.le
   refine ⟨i,by omega,?_⟩
   unfold sg;rw[if_pos Zom];simp[List.getD,hi]
  ·simp only[Ux,Qac]at h
   obtain ⟨i,hi,rfl⟩:=h
   exact ⟨m + i,by omega,by unfold sg;rw[if_neg Zom];omega⟩
 have hfsH:∀ j,(Qbf s d ins m r hout n).fs.H j=Qb (outH (sg ins m s.n) hout n n++s.h) (s.n + (n - m)) j:=fun j=>by cases d<;>rfl
 have hfsT:∀ i,(Qbf s d ins m r hout n).fs.T i=match d with|some d=>(if d=i then ren (sg ins m s.n) r else s.fs.T i)|none=>s.fs.T i:=fun i=>by
  cases d with
  | none=>rfl
  | some d=>show look ((d,_)::s.t) i=_;rw[Zt];rfl
 have hin':∀ b,b < n→Qb (outH (sg ins m s.n) hout n n++s.h) (s.n + (n - m)) (sg ins m s.n b)=Qec (sg ins m s.n) (Qb hout n b):=fun b hb=>by
  rcases Qge (outH (sg ins m s.n) hout n n) s.h (s.n + (n - m)) (sg ins m s.n b) with ⟨_,p,hp,e1,e2⟩|⟨h1,_⟩
  ·obtain ⟨b',hb',rfl⟩:=Qcg.1 hp
   have:=hsg b' b hb' hb e1
   subst this;exact e2
  ·exact (h1 _ (Qcg.2 ⟨b,hb,rfl⟩) rfl).elim
 have hrest:∀ j,j ∉ ins++Ux s.n m n→Qb (outH (sg ins m s.n) hout n n++s.h) (s.n + (n - m)) j=s.fs.H j:=fun j hj=>by
  rcases Qge (outH (sg ins m s.n) hout n n) s.h (s.n + (n - m)) j with ⟨⟨p,hp,e⟩,_⟩|⟨_,h2⟩
  ·obtain ⟨b,hb,rfl⟩:=Qcg.1 hp
   exact (hj (e ▸ hnames b hb)).elim
  ·rw[h2]
   show Qb s.h (s.n + (n - m)) j=Qb s.h s.n j
   have hno:∀ k,k≤n - m→Qb s.h (s.n + k) j=Qb s.h s.n j:=fun k hk=>by
    induction k with
    | zero=>rfl
    | succ k ih =>
     rw[← ih Zom]
     refine Kn s.h (s.n + k) j fun e=>hj ?_
     refine List.mem_append_right _ ?_
     simp only[Ux,Qac];exact ⟨k,by omega,e.symm⟩
   exact hno _ (Nat.le_refl _)
 refine ⟨fun i hi=>?_,fun j hj=>?_,fun s2 hT hH g a w hR K Q' hK=>Yl (Jl hgd) ?_⟩
 ·rw[hfsT]
  cases d with
  | none=>rfl
  | some d=>simp only[Qda,Option.toList_some,List.mem_singleton]at hi;simp only;rw[if_neg fun e=>hi e.symm]
 ·rw[hfsH];exact hrest j hj
 ·have hevs:evs c.gl s2 (ys.map tvO)=evs c.gl s.fs (ys.map tvO):=Ye fun i hi=>hT i hi
  have hv:=Yh (hR.evs ys) (by rw[hevs];exact hc)
  rw[hevs,hargs]at hv
  have fit2:Fit (sg ins m s.n) s2 hin m:=by
   refine ⟨fun p hp=>?_,fun p hp q hq e=>Qvt ok.ins e⟩
   obtain ⟨q1,q2,q3⟩:=Qlk ok.fit p hp
   exact ⟨q1,q2,by rw[hH _ (hnames p.1 (Nat.lt_of_lt_of_le q1 ok.le))];exact q3⟩
  have hcov:∀ b,b < m→∃ p ∈ hin,p.1=b:=fun b hb=>by
   have:=Qlh.2 hb
   rw[← ok.cov,Qt1]at this
   obtain ⟨p,hp,e⟩:=List.mem_map.1 this
   exact ⟨p,hp,e⟩
  have hnew:∀ b,m≤b→b < n→s2.H (sg ins m s.n b)=.free:=fun b h1 h2=>by
   rw[hH _ (hnames b h2)]
   refine Qj0 ok.free _ ?_
   unfold sg;rw[if_neg Zom]
   simp only[Ux,Qac];exact ⟨b - m,by omega,rfl⟩
  obtain ⟨g1,hg1,hRl,hWl⟩:=Xen hR fit2
  have hv1:=Qeg (g1:=g1) hg1 hWl ok.na hv
  have hcall:=hgs.2 w _ _ _ g1 hRl hv1
  unfold Oper.wp
  rw[Qdz hgs.1 hop]
  rw[Oper.upon_enter]
  refine hcall.mono fun e w' ⟨v,g2,e1,e2,e3,e4⟩=>?_
  subst e1
  let s3:FS:=⟨s2.T,fun j=>if j ∈ ins++Ux s.n m n then (Qbf s d ins m r hout n).fs.H j else s2.H j⟩
  have hb:Back (sg ins m s.n) s2 s3 hout n:=by
   refine ⟨fun i=>rfl,fun b hbn=>?_,fun j hj=>?_⟩
   ·show (if _ then _ else _)=_
    rw[if_pos (hnames b hbn),hfsH,hin' b hbn]
   ·show (if _ then _ else _)=_
    rw[if_neg fun h=>?_]
    obtain ⟨b,hbn,rfl⟩:=hback j h
    exact hj b hbn rfl
  obtain ⟨hR3,hval⟩:=Qpo hR fit2 hcov ok.le hsg hnew (fun p hp=>(Qgf ok.out p hp).2) (fun p hp=>(Qgf ok.out p hp).1) hg1 e3 e2 hb
  have hv3:=hval ok.nr e4
  show K (a.put io.dst v) w'
  rw[hdst]
  cases d with
  | none =>
   refine hK (Jk g g2 (sg ins m s.n) n) _ w' ?_
   have:ovr s2 (Qbf s none ins m r hout n).fs (Qda s none (ys.map tvO) ins m n)=s3:=by
    refine Qap (fun i=>?_) fun j=>rfl
    show (if i ∈ ([]:List Nat) then (Qbf s none ins m r hout n).fs.T i else s2.T i)=s2.T i
    simp
   rw[this];exact hR3
  | some d =>
   refine hK (Jk g g2 (sg ins m s.n) n) _ w' ?_
   have:ovr s2 (Qbf s (some d) ins m r hout n).fs (Qda s (some d) (ys.map tvO) ins m n)=s3.put d (ren (sg ins m s.n) r):=by
    refine Qap (fun i=>?_) fun j=>rfl
    show (if i ∈ [d] then (Qbf s (some d) ins m r hout n).fs.T i else s2.T i)=_
    rw[FS.T_put,hfsT]
    by_cases h:d=i
    ·subst h;simp
    ·rw[if_neg (by simpa using fun e:i=d=>h e.symm),if_neg h]
   rw[this];exact hR3.put (by simpa using hd) hv3
theorem Qy {r0:List TOp} {K:St→Prop} {s:St} {d:Option Nat} {f:FuncId} {xs:List TV} {ins:List Nat} {args:List AV} {hin:List (Nat × Bk)} {m:Nat} {r:AV} {hout:List (Nat × Bk)} {n:Nat} (hgs:GS P c.gl f args hin m r hout n)
  (hargs:(evs c.gl s.fs xs).map Qj=rens (sg ins m s.n) args) (h:Qt none (evs c.gl s.fs xs)∧GsOk s.fs s.n ins args hin m r hout n∧XP P c r0 K (Qbf s d ins m r hout n)):Yc P c (.pd d (.call f) xs none) r0 K s :=
 .inl ⟨_,_,Qzz hgs h.1 hargs h.2.1,h.2.2⟩
theorem Qv {anc:List Nat} {fs:List Foot} {r0:List TOp} {K:St→Prop} {s:St} {d:Option Nat} {f:FuncId} {xs:List TV} {ins:List Nat} {args:List AV} {hin:List (Nat × Bk)} {m:Nat} {r:AV} {hout:List (Nat × Bk)} {n:Nat} (hgs:GS P c.gl f args hin m r hout n)
  (hargs:(evs c.gl s.fs xs).map Qj=rens (sg ins m s.n) args) (h:Qt none (evs c.gl s.fs xs)∧GsOk s.fs s.n ins args hin m r hout n∧XD P c anc r0 (Qda s d xs ins m n::fs) K (Qbf s d ins m r hout n)):Za P c anc (.pd d (.call f) xs none) r0 fs K s :=
 ⟨_,_,Qzz hgs h.1 hargs h.2.1,h.2.2⟩
end
theorem FT.gs {P:Program} {gl:Nat→AV} {f:FuncId} {fn:Func} {t:TC} {rs:List RS} (hF:FT P f fn t rs) {args:List AV} {hin hout:List (Nat × Bk)} {m n:Nat} {r:AV} (hN:args.length≤fn.ntmps) (hlive:∀ p ∈ hin,p.2.live)
  (h:∀ c:Cx,(∀ p ∈ c.gh,p.1 < m)→c.gl=gl→xw P c t (Xe0 m rs r hout n) ⟨Qaf 0 args,hin,m⟩):GS P gl f args hin m r hout n:=by
 have hc:=hF.code
 cases hb:fn.body with
 | none=>rw[hb]at hc;simp at hc
 | some code =>
  rw[hb]at hc
  exact Xqa hF.mixed hF.func hb hF.name hc hF.res hN hlive h
theorem Xxb (s:FS) (n0:Nat) (ins:List Nat) (args:List AV) (hin:List (Nat × Bk)) (m:Nat) (r:AV) (hout:List (Nat × Bk)) (n:Nat):GsOk s n0 ins args hin m r hout n =
  (Qrs (sg ins m n0) s m hin∧idx hin=upto m∧Qlo ins m n0=true∧Qnf s (Ux n0 m n)∧Qnq n hout∧m≤n∧Qe n r∧nmAll m args) :=
 propext ⟨fun h=>⟨h.fit,h.cov,h.ins,h.free,h.out,h.le,h.nr,h.na⟩,fun ⟨a,b,c,d,e,f,g,h⟩=>⟨a,b,c,d,e,f,g,h⟩⟩
theorem Xc9 (m:Nat) (rs:List RS) (r:AV) (hout:List (Nat × Bk)) (n:Nat) (s:St):Xe0 m rs r hout n .ret s=(Wd s.fs rs∧∃ ρ,Qfe m ρ n∧Sub (rl ρ) ⟨[(0,rvs s.fs rs)],s.h,s.n⟩ ⟨[(0,r)],hout,n⟩):=rfl
theorem Qqy (m:Nat) (rs:List RS) (r:AV) (hout:List (Nat × Bk)) (n:Nat) (s:St):Xe0 m rs r hout n .normal s=(Wd s.fs rs∧∃ ρ,Qfe m ρ n∧Sub (rl ρ) ⟨[(0,rvs s.fs rs)],s.h,s.n⟩ ⟨[(0,r)],hout,n⟩):=rfl
theorem Qmr {σ:Type} (m:Nat) (I:σ→Prop) (emb:σ→St) (μ:σ→Nat) (x:σ) (Q:EX→St→Prop) (s:St):Qns m I emb μ x Q .normal s=∃ y,I y∧(∃ ρ,Qfe m ρ (emb y).n∧Sub (rl ρ) s (emb y))∧μ y < μ x:=rfl
theorem Qvd {σ:Type} (m:Nat) (I:σ→Prop) (emb:σ→St) (μ:σ→Nat) (x:σ) (Q:EX→St→Prop) (s:St):Qns m I emb μ x Q .ret s=Q .ret s:=rfl
theorem Qr0 {σ:Type} (m:Nat) (I:σ→Prop) (emb:σ→St) (μ:σ→Nat) (x:σ) (Q:EX→St→Prop) (i:Nat) (s:St):Qns m I emb μ x Q (.exit i) s=Q (.exit i) s:=rfl
theorem Xf4 (m n:Nat):Qfe m [] n=(m≤n):=propext ⟨fun h=>h.2,fun h=>⟨fun p hp=>(by cases hp),h⟩⟩
theorem Qww (m i j n:Nat) (r:List (Nat × Nat)):Qfe m ((i,j)::r) n=(m≤i∧Qfe m r n):=propext ⟨fun h=>⟨h.1 (i,j) (by simp),fun p hp=>h.1 p (by simp[hp]),h.2⟩,fun h=>⟨fun p hp=>by
 rcases List.mem_cons.1 hp with rfl|hp
 ·exact h.1
 ·exact h.2.1 p hp,h.2.2⟩⟩
theorem Qqq (σ:Nat→Nat) (cs:List AV):Qec σ (.cells cs)=Xf σ (.cells cs):=rfl
theorem Qrf (σ:Nat→Nat) (kvs:List (AV × AV)) (dn:Bool):Qec σ (.mapb kvs dn)=Xf σ (.mapb kvs dn):=rfl
theorem Qsr (σ:Nat→Nat):Qec σ .dead=.dead:=rfl
attribute [go_sem] Xxb Qbf Qda sg Qrs Qnq Qnf Ux Qp5 outH idx upto Qlo Qe2 Xc9 Qqy Qmr Qvd Qr0 Xf4 Qww Qqq Qrf Qsr List.all_cons List.all_nil
def St.ph (s:St) (d es:Nat):St:=(s.nw (.cells [])).put d (.sl es s.n 0 0 0)
def St.phs (s:St):List (Nat × Nat)→St
 | []=>s
 | (d,es)::r=>(s.ph d es).phs r
def Xal (s:St):List (Nat × Nat)→Prop
 | []=>True
 | (d,es)::r=>(s.fs.H s.n=.free∧look s.t d=.nils)∧Xal (s.ph d es) r
section
variable {P:Program} {c:Cx}
theorem R.ph {s:St} {d es:Nat} {g:Nat→GM} {a:Act} {w:World} (hR:R c g s.fs a w) (hfree:s.fs.H s.n=.free) (hd:look s.t d=.nils):∃ g',R c g' (s.ph d es).fs a w:=by
 have h1:=R.phantom hR hfree
 refine ⟨Yu g s.n .ph,?_⟩
 have e:(s.ph d es).fs=(s.fs.putB s.n (.cells [])).put d (.sl es s.n 0 0 0):=by
  unfold St.ph;rw[St.fs_put,St.fs_nw]
 rw[e]
 refine ⟨h1.size,h1.def_,fun i=>?_,h1.gl,h1.h,h1.inj,h1.old,h1.fr,h1.xs,h1.pin⟩
 rw[FS.T_put]
 split
 ·rename_i hi
  subst hi
  have:=hR.t d
  have e2:s.fs.T d=.nils:=hd
  rw[e2]at this
  obtain ⟨ad,h⟩:=Qif this
  rw[h]
  exact .slp (by simp[Yu]) rfl
 ·exact h1.t i
theorem R.phs:∀ {ps:List (Nat × Nat)} {s:St} {g:Nat→GM} {a:Act} {w:World},R c g s.fs a w→Xal s ps→∃ g',R c g' (s.phs ps).fs a w
 | [],s,g,a,w,hR,_=>⟨g,hR⟩
 | (d,es)::r,s,g,a,w,hR,h=>by
  obtain ⟨g1,h1⟩:=hR.ph (es:=es) h.1.1 h.1.2
  exact R.phs (ps:=r) (s:=s.ph d es) h1 h.2
theorem Xl5 {ps:List (Nat × Nat)} {b:TC} {Q:EX→St→Prop} {s:St} (h0:Xal s ps) (h:Qc3 P c b Q (s.phs ps)):Qc3 P c b Q s:=fun code he g a w hR=>by
 obtain ⟨g1,h1⟩:=hR.phs h0
 exact h code he g1 a w h1
end
attribute [go_sem] St.ph St.phs Xal
section
variable {P:Program} {c:Cx}
def Qcp (d:Option Nat) (gd:Option (Nat × Bool)):Foot:=⟨gdT gd,[],d.toList,[]⟩
theorem Qqd {s:St} {d:Option Nat} {k:PK} {xs:List TV} {gd:Option (Nat × Bool)} (hb:gB s.fs gd=some false) (hok:gOk s.fs gd):Kj P c (.pd d k xs gd) s.fs (Qcp d gd) (s.putO d (.cnd false .any)).fs:=by
 intro ops io he
 obtain ⟨hgd,hdst,hd,ys,hel,rfl⟩:=Zd he
 have hput:(s.putO d (.cnd false .any)).fs=match d with|some d=>s.fs.put d (.cnd false .any)|none=>s.fs:=by
  cases d with
  | none=>rfl
  | some d=>exact St.fs_put _ _ _
 rw[hput]
 refine ⟨fun i hi=>?_,fun b _=>by cases d<;>rfl,?_⟩
 ·cases d with
  | none=>rfl
  | some d=>show (s.fs.put d _).T i=_;rw[FS.T_put,if_neg (fun e=>hi (by simp[Qcp,e]))]
 ·intro s2 hT hH g a w hR K Q' hK
  have hg:∀ t b,gd=some (t,b)→s2.T t=s.fs.T t:=fun t b e=>hT t (by simp[Qcp,e,gdT])
  have hgB:gB s2 gd=gB s.fs gd:=by
   cases gd with
   | none=>rfl
   | some p=>obtain ⟨t,b⟩:=p;simp only[gB,hg t b rfl]
  have hgO:gOk s2 gd:=by
   cases gd with
   | none=>exact hok
   | some p=>obtain ⟨t,b⟩:=p;simpa only[gOk,hg t b rfl] using hok
  have hK':K (a.put io.dst undef) w:=by
   rw[hdst]
   cases d with
   | none =>
    refine hK g _ w ?_
    have:ovr s2 s.fs (Qcp none gd)=s2:=by unfold ovr Qcp;simp
    simp only[this];exact hR
   | some d =>
    refine hK g _ w ?_
    show R c g (ovr s2 (s.fs.put d _) ⟨gdT gd,[],[d],[]⟩) _ _
    rw[Qdo]
    exact hR.put (by simpa using hd) (.cnd (fun h=>by cases h) fun _=>rfl)
  unfold Qan
  rw[Qb9 hgd hR hgO,hgB,hb]
  simp only[Option.getD_some,Bool.false_eq_true,if_false]
  exact hK'
theorem Yd {r0:List TOp} {K:St→Prop} {s:St} {d:Option Nat} {k:PK} {xs:List TV} {gd:Option (Nat × Bool)} (hb:gB s.fs gd=some false) (hok:gOk s.fs gd∧XP P c r0 K (s.putO d (.cnd false .any))):Yc P c (.pd d k xs gd) r0 K s :=
 .inl ⟨_,_,Qqd hb hok.1,hok.2⟩
theorem Xu {anc:List Nat} {fs:List Foot} {r0:List TOp} {K:St→Prop} {s:St} {d:Option Nat} {k:PK} {xs:List TV} {gd:Option (Nat × Bool)} (hb:gB s.fs gd=some false) (hok:gOk s.fs gd∧XD P c anc r0 (Qcp d gd::fs) K (s.putO d (.cnd false .any))):Za P c anc (.pd d k xs gd) r0 fs K s :=
 ⟨_,_,Qqd hb hok.1,hok.2⟩
end
attribute [go_sem] Qcp
section
variable {P:Program} {c:Cx}
theorem Xa9 {s s':St} {d:Option Nat} {k:PK} {f:FuncId} {xs:List TV} {σ:Nat→Nat} {args:List AV} {hin:List (Nat × Bk)} {m:Nat} {r:AV} {hout:List (Nat × Bk)} {n:Nat} {N:List Nat} (hgs:GS P c.gl f args hin m r hout n)
  (hcallv:∀ (o:Oper) (ys:List Operand),Xy P o=some (k,ys)→xs=ys.map tvO→∀ (s2:FS) (g:Nat→GM) (a:Act) (w:World),(∀ i ∈ Xj xs,s2.T i=s.fs.T i)→R c g s2 a w→∃ vs:List Value,(execOp a.eval o).run P w=.ok (.enter f vs.toArray) w∧VRs g (Qn c g s2) w (rens σ args) vs)
  (hsg:∀ b b',b < n→b' < n→σ b=σ b'→b=b') (hfit:∀ p ∈ hin,p.1 < m∧nmB m p.2∧s.fs.H (σ p.1)=Xf σ p.2) (hcov:∀ b,b < m→∃ p ∈ hin,p.1=b) (hle:m≤n) (hfree:∀ b,m≤b→b < n→s.fs.H (σ b)=.free)
  (hout':∀ p ∈ hout,p.1 < n∧nmB n p.2) (hnr:Qe n r) (hna:nmAll m args)
  (hN1:∀ b,b < n→σ b ∈ N) (hN2:∀ j ∈ N,∃ b,b < n∧σ b=j)
  (hfsT:∀ i,s'.fs.T i=match d with|some d=>(if d=i then ren σ r else s.fs.T i)|none=>s.fs.T i) (hin':∀ b,b < n→s'.fs.H (σ b)=Qec σ (Qb hout n b)) (hrest:∀ j,j ∉ N→s'.fs.H j=s.fs.H j):Kj P c (.pd d k xs none) s.fs ⟨Xj xs,N,d.toList,N⟩ s'.fs:=by
 intro ops io he
 obtain ⟨hgd,hdst,hd,ys,hel,rfl⟩:=Zd he
 refine ⟨fun i hi=>?_,fun j hj=>hrest j hj,fun s2 hT hH g a w hR K Q' hK=>Yl (Jl hgd) ?_⟩
 ·rw[hfsT]
  cases d with
  | none=>rfl
  | some d=>simp only[Option.toList_some,List.mem_singleton]at hi;simp only;rw[if_neg fun e=>hi e.symm]
 ·obtain ⟨vs,hrun,hv⟩:=hcallv io ys hel rfl s2 g a w hT hR
  have fit2:Fit σ s2 hin m:=by
   refine ⟨fun p hp=>?_,fun p hp q hq e=>hsg _ _ (Nat.lt_of_lt_of_le (hfit p hp).1 hle) (Nat.lt_of_lt_of_le (hfit q hq).1 hle) e⟩
   obtain ⟨q1,q2,q3⟩:=hfit p hp
   exact ⟨q1,q2,by rw[hH _ (hN1 p.1 (Nat.lt_of_lt_of_le q1 hle))];exact q3⟩
  have hnew:∀ b,m≤b→b < n→s2.H (σ b)=.free:=fun b h1 h2=>by
   rw[hH _ (hN1 b h2)];exact hfree b h1 h2
  obtain ⟨g1,hg1,hRl,hWl⟩:=Xen hR fit2
  have hv1:=Qeg (g1:=g1) hg1 hWl hna hv
  have hcall:=hgs.2 w _ _ _ g1 hRl hv1
  unfold Oper.wp
  rw[hrun]
  rw[Oper.upon_enter]
  refine hcall.mono fun e w' ⟨v,g2,e1,e2,e3,e4⟩=>?_
  subst e1
  let s3:FS:=⟨s2.T,fun j=>if j ∈ N then s'.fs.H j else s2.H j⟩
  have hb:Back σ s2 s3 hout n:=by
   refine ⟨fun i=>rfl,fun b hbn=>?_,fun j hj=>?_⟩
   ·show (if _ then _ else _)=_
    rw[if_pos (hN1 b hbn),hin' b hbn]
   ·show (if _ then _ else _)=_
    rw[if_neg fun h=>?_]
    obtain ⟨b,hbn,rfl⟩:=hN2 j h
    exact hj b hbn rfl
  obtain ⟨hR3,hval⟩:=Qpo hR fit2 hcov hle hsg hnew (fun p hp=>(hout' p hp).2) (fun p hp=>(hout' p hp).1) hg1 e3 e2 hb
  have hv3:=hval hnr e4
  show K (a.put io.dst v) w'
  rw[hdst]
  cases d with
  | none =>
   refine hK (Jk g g2 σ n) _ w' ?_
   have:ovr s2 s'.fs ⟨Xj (ys.map tvO),N,[],N⟩=s3:=by
    refine Qap (fun i=>?_) fun j=>rfl
    show (if i ∈ ([]:List Nat) then s'.fs.T i else s2.T i)=s2.T i
    simp
   show R c _ (ovr s2 s'.fs ⟨Xj (ys.map tvO),N,[],N⟩) _ _
   rw[this];exact hR3
  | some d =>
   refine hK (Jk g g2 σ n) _ w' ?_
   have:ovr s2 s'.fs ⟨Xj (ys.map tvO),N,[d],N⟩=s3.put d (ren σ r):=by
    refine Qap (fun i=>?_) fun j=>rfl
    show (if i ∈ [d] then s'.fs.T i else s2.T i)=_
    rw[FS.T_put,hfsT]
    by_cases h:d=i
    ·subst h;simp
    ·rw[if_neg (by simpa using fun e:i=d=>h e.symm),if_neg h]
   show R c _ (ovr s2 s'.fs ⟨Xj (ys.map tvO),N,[d],N⟩) _ _
   rw[this];exact hR3.put (by simpa using hd) hv3
theorem Xwx {s:St} {d:Option Nat} {k:PK} {f:FuncId} {xs:List TV} {ins:List Nat} {args:List AV} {hin:List (Nat × Bk)} {m:Nat} {r:AV} {hout:List (Nat × Bk)} {n:Nat} (hgs:GS P c.gl f args hin m r hout n)
  (hcallv:∀ (o:Oper) (ys:List Operand),Xy P o=some (k,ys)→xs=ys.map tvO→∀ (s2:FS) (g:Nat→GM) (a:Act) (w:World),(∀ i ∈ Xj xs,s2.T i=s.fs.T i)→R c g s2 a w→∃ vs:List Value,(execOp a.eval o).run P w=.ok (.enter f vs.toArray) w∧VRs g (Qn c g s2) w (rens (sg ins m s.n) args) vs)
  (ok:GsOk s.fs s.n ins args hin m r hout n):Kj P c (.pd d k xs none) s.fs (Qda s d xs ins m n) (Qbf s d ins m r hout n).fs:=by
 have hsg:∀ b b',b < n→b' < n→sg ins m s.n b=sg ins m s.n b'→b=b':=fun b b' _ _ e=>Qvt ok.ins e
 have hlen:ins.length=m:=by
  have:=ok.ins;simp only[Qlo,Bool.and_eq_true,beq_iff_eq]at this;exact this.1.1
 -- the names that are touched
 have hnames:∀ b,b < n→sg ins m s.n b ∈ ins++Ux s.n m n:=fun b hb=>by
  unfold sg
  split
  ·rename_i h
   refine List.mem_append_left _ ?_
   simp only[List.getD,List.getElem?_eq_getElem (show b < ins.length by omega),Option.getD_some];exact List.getElem_mem _
  ·refine List.mem_append_right _ ?_
   simp only[Ux,Qac];exact ⟨b - m,by omega,rfl⟩
 have hback:∀ j,j ∈ ins++Ux s.n m n→∃ b,b < n∧sg ins m s.n b=j:=fun j hj=>by
  rcases List.mem_append.1 hj with h|h
  ·obtain ⟨i,hi,rfl⟩:=List.getElem_of_mem h
   have:=ok.le
   refine ⟨i,by omega,?_⟩
   unfold sg;rw[if_pos Zom];simp[List.getD,hi]
  ·simp only[Ux,Qac]at h
   obtain ⟨i,hi,rfl⟩:=h
   exact ⟨m + i,by omega,by unfold sg;rw[if_neg Zom];omega⟩
 have hfsH:∀ j,(Qbf s d ins m r hout n).fs.H j=Qb (outH (sg ins m s.n) hout n n++s.h) (s.n + (n - m)) j:=fun j=>by cases d<;>rfl
 have hfsT:∀ i,(Qbf s d ins m r hout n).fs.T i=match d with|some d=>(if d=i then ren (sg ins m s.n) r else s.fs.T i)|none=>s.fs.T i:=fun i=>by
  cases d with
  | none=>rfl
  | some d=>show look ((d,_)::s.t) i=_;rw[Zt];rfl
 have hin':∀ b,b < n→Qb (outH (sg ins m s.n) hout n n++s.h) (s.n + (n - m)) (sg ins m s.n b)=Qec (sg ins m s.n) (Qb hout n b):=fun b hb=>by
  rcases Qge (outH (sg ins m s.n) hout n n) s.h (s.n + (n - m)) (sg ins m s.n b) with ⟨_,p,hp,e1,e2⟩|⟨h1,_⟩
  ·obtain ⟨b',hb',rfl⟩:=Qcg.1 hp
   have:=hsg b' b hb' hb e1
   subst this;exact e2
  ·exact (h1 _ (Qcg.2 ⟨b,hb,rfl⟩) rfl).elim
 have hrest:∀ j,j ∉ ins++Ux s.n m n→Qb (outH (sg ins m s.n) hout n n++s.h) (s.n + (n - m)) j=s.fs.H j:=fun j hj=>by
  rcases Qge (outH (sg ins m s.n) hout n n) s.h (s.n + (n - m)) j with ⟨⟨p,hp,e⟩,_⟩|⟨_,h2⟩
  ·obtain ⟨b,hb,rfl⟩:=Qcg.1 hp
   exact (hj (e ▸ hnames b hb)).elim
  ·rw[h2]
   show Qb s.h (s.n + (n - m)) j=Qb s.h s.n j
   have hno:∀ k,k≤n - m→Qb s.h (s.n + k) j=Qb s.h s.n j:=fun k hk=>by
    induction k with
    | zero=>rfl
    | succ k ih =>
     rw[← ih Zom]
     refine Kn s.h (s.n + k) j fun e=>hj ?_
     refine List.mem_append_right _ ?_
     simp only[Ux,Qac];exact ⟨k,by omega,e.symm⟩
   exact hno _ (Nat.le_refl _)
 exact Xa9 (σ:=sg ins m s.n) (N:=ins++Ux s.n m n) hgs hcallv hsg (fun p hp=>Qlk ok.fit p hp) (fun b hb=>by
  have:=Qlh.2 hb
  rw[← ok.cov,Qt1]at this
  obtain ⟨p,hp,e⟩:=List.mem_map.1 this
  exact ⟨p,hp,e⟩) ok.le (fun b h1 h2=>by
  refine Qj0 ok.free _ ?_
  unfold sg;rw[if_neg Zom]
  simp only[Ux,Qac];exact ⟨b - m,by omega,rfl⟩) (fun p hp=>Qgf ok.out p hp) ok.nr ok.na hnames hback (fun i=>by rw[hfsT];cases d<;>rfl) (fun b hb=>by rw[hfsH];exact hin' b hb) (fun j hj=>by rw[hfsH];exact hrest j hj)
theorem Qhs {o:Oper} {xs:List Operand} (h:Xy P o=some (.callv,xs)):∃ x ys ts,xs=x::ys∧o.op=.call ⟨.value x,ys.toArray,ts⟩:=by
 unfold Xy at h
 repeat' split at h
 all_goals first
  | (simp only[Option.some.injEq,Prod.mk.injEq,true_and]at h;subst h;rename_i hop;exact ⟨_,_,_,rfl,by rw[hop]⟩)
  | (simp at h;done)
  | (cases h;done)
  | (simp[Option.map_eq_some_iff]at h;done)
theorem Qiu {f:FuncId} (hc:Qdr P f) {o:Oper} {x:Operand} {ys:List Operand} {ts:Array TypeId} (ho:o.op=.call ⟨.value x,ys.toArray,ts⟩) (a:Act) (w:World) (us:Array Value) (hx:a.eval x=.func (.func f) #[] us) :
  (execOp a.eval o).run P w=.ok (.enter f (ys.map a.eval++us.toList).toArray) w:=by
 have e:(ys.map a.eval++us.toList).toArray=(ys.map a.eval).toArray++us:=Array.ext' Zsi
 rw[e]
 obtain ⟨fn,h1,h2,h3⟩:=hc
 have h2':fn.body≠none:=fun e=>by rw[e]at h2;cases h2
 have h3' : fn.name ≠ "runtime.NumGoroutine" := fun e => by rw [e] at h3; cases h3
 simp[execOp,ho,resolve,hx,Deferred.ofValue,invoke,callFunc,program,Sem.run,h1,h2',h3']
theorem Qf0 {g:Nat→GM} {W:Nat→Prop} {w:World}:∀ {xs ys:List AV} {us vs:List Value},VRs g W w xs us→VRs g W w ys vs→VRs g W w (xs++ys) (us++vs)
 | [],_,[],_,_,h=>h
 | _::_,_,_::_,_,h,k=>⟨h.1,Qf0 h.2 k⟩
 | [],_,_::_,_,h,_=>h.elim
 | _::_,_,[],_,h,_=>h.elim
theorem Qnj {g:Nat→GM} {W:Nat→Prop} {w:World}:∀ {xs:List AV} {us:List Value},us.length=xs.length→(∀ j,j < xs.length→VR g W w (xs.getD j .any) (us.getD j undef))→VRs g W w xs us
 | [],[],_,_=>trivial
 | x::xs,u::us,hl,h=>⟨by simpa using h 0 Zsi,Qnj (by simpa using hl) fun j hj=>by simpa using h (j + 1) (by simp;omega)⟩
 | [],_::_,hl,_=>by simp at hl
 | _::_,[],hl,_=>by simp at hl
def Qeq:List AV→Option (FuncId × List AV)
 | .cl f caps::r=>some (f,r++caps)
 | _=>none
theorem Qsn {s:St} {d:Option Nat} {f:FuncId} {xs:List TV} {ins:List Nat} {args:List AV} {hin:List (Nat × Bk)} {m:Nat} {r:AV} {hout:List (Nat × Bk)} {n:Nat} (hgs:GS P c.gl f args hin m r hout n) (hc:Qt none (evs c.gl s.fs xs))
  (hargs:Qeq ((evs c.gl s.fs xs).map Qj)=some (f,rens (sg ins m s.n) args)) (ok:GsOk s.fs s.n ins args hin m r hout n):Kj P c (.pd d .callv xs none) s.fs (Qda s d xs ins m n) (Qbf s d ins m r hout n).fs:=by
 refine Xwx hgs (fun o zs hel hxs s2 g a w hT hR=>?_) ok
 obtain ⟨x,ys,ts,rfl,hop⟩:=Qhs hel
 subst hxs
 have hevs:evs c.gl s2 ((x::ys).map tvO)=evs c.gl s.fs ((x::ys).map tvO):=Ye fun i hi=>hT i hi
 have hv:=Yh (hR.evs (x::ys)) (by rw[hevs];exact hc)
 rw[hevs]at hv
 generalize (evs c.gl s.fs ((x::ys).map tvO)).map Qj=zs at hargs hv
 cases zs with
 | nil=>simp[Qeq]at hargs
 | cons z zs =>
  unfold Qeq at hargs
  split at hargs
  ·rename_i f' caps' r' heq
   simp only[Option.some.injEq,Prod.mk.injEq]at hargs
   obtain ⟨rfl,hargs⟩:=hargs
   simp only[List.cons.injEq]at heq
   obtain ⟨rfl,rfl⟩:=heq
   rw[List.map_cons]at hv
   obtain ⟨h1,h2⟩:=hv
   generalize hx:a.eval x=vx at h1
   cases h1 with
   | cl hs h =>
    refine ⟨_,Qiu hgs.1 hop a w _ hx,?_⟩
    rw[← hargs]
    have:=Qf0 h2 (Qnj (xs:=caps') (us:=Array.toList _) (by simpa using hs) fun j hj=>by
     have:=h j hj
     simpa [Array.getD_eq_getD_getElem?,List.getD] using this)
    exact this
  ·cases hargs
theorem Qu {r0:List TOp} {K:St→Prop} {s:St} {d:Option Nat} {f:FuncId} {xs:List TV} {ins:List Nat} {args:List AV} {hin:List (Nat × Bk)} {m:Nat} {r:AV} {hout:List (Nat × Bk)} {n:Nat} (hgs:GS P c.gl f args hin m r hout n)
  (hargs:Qeq ((evs c.gl s.fs xs).map Qj)=some (f,rens (sg ins m s.n) args)) (h:Qt none (evs c.gl s.fs xs)∧GsOk s.fs s.n ins args hin m r hout n∧XP P c r0 K (Qbf s d ins m r hout n)):Yc P c (.pd d .callv xs none) r0 K s :=
 .inl ⟨_,_,Qsn hgs h.1 hargs h.2.1,h.2.2⟩
theorem Qr {anc:List Nat} {fs:List Foot} {r0:List TOp} {K:St→Prop} {s:St} {d:Option Nat} {f:FuncId} {xs:List TV} {ins:List Nat} {args:List AV} {hin:List (Nat × Bk)} {m:Nat} {r:AV} {hout:List (Nat × Bk)} {n:Nat} (hgs:GS P c.gl f args hin m r hout n)
  (hargs:Qeq ((evs c.gl s.fs xs).map Qj)=some (f,rens (sg ins m s.n) args)) (h:Qt none (evs c.gl s.fs xs)∧GsOk s.fs s.n ins args hin m r hout n∧XD P c anc r0 (Qda s d xs ins m n::fs) K (Qbf s d ins m r hout n)):Za P c anc (.pd d .callv xs none) r0 fs K s :=
 ⟨_,_,Qsn hgs h.1 hargs h.2.1,h.2.2⟩
theorem Qnz {f:FuncId} {caps asq:List AV} {r:AV} (hps:PS P c.gl f (asq++caps) r) (hnm:nmAll 0 (asq++caps)):Qae P c .callv (.cl f caps::asq) r:=by
 intro o ys hel g W a w hX hgl hv K Q hK
 obtain ⟨x,zs,ts,rfl,hop⟩:=Qhs hel
 rw[List.map_cons]at hv
 obtain ⟨h1,h2⟩:=hv
 generalize hx:a.eval x=vx at h1
 cases h1 with
 | cl hs h =>
  have h3:=Qf0 h2 (Qnj (xs:=caps) (us:=Array.toList _) (by simpa using hs) fun j hj=>by
   have:=h j hj
   simpa [Array.getD_eq_getD_getElem?,List.getD] using this)
  have h4:VRs (fun _=>.un) W w (asq++caps) _:=Qta (n:=0) (fun b hb=>absurd hb Zom) h3 hnm
  unfold Oper.wp
  rw[Qiu hps.1 hop a w _ hx]
  rw[Oper.upon_enter]
  refine (hps.2 w _ _ hX hgl h4).mono fun e w' ⟨v,e1,e2,e3⟩=>?_
  subst e1
  exact hK v w' e3 (e2.mono (Fr.refl _ _) (fun _ _ h=>h) (fun _ h=>absurd rfl h))
theorem Qq5 {N:Nat} {ops:Array Oper} {io:Oper} {d:Option Nat} {k:PK} {xs:List TV} {gd:Option (Nat × Bool)} (h:Wq P N ops io=some (.pd d k xs gd)):Wq P N ops { io with guard:=none }=some (.pd d k xs none):=by
 have hg0:Qcl ops { io with guard:=none }=some none:=rfl
 have hq:Qet P { io with guard:=none }=Qet P io:=rfl
 have hp:Xy P { io with guard:=none }=Xy P io:=rfl
 unfold Wq at h ⊢
 rw[hg0,hq,hp]
 split at h
 ·cases h
 ·rename_i gd' hg
  dsimp only
  split at h
  ·split at h
   ·split at h<;>simp at h
   ·cases h
  ·split at h<;>simp at h
  ·split at h<;>simp at h
  ·rename_i n1 n2 n3
   have rest:∀ {α:Type} (x:α),x=x:=fun _=>rfl
   split at h
   ·split at h<;>simp at h
   ·rename_i n4
    split at h
    ·rename_i k' ys hk
     split at h
     ·rename_i hd
      simp only[Option.some.injEq,TOp.pd.injEq]at h
      obtain ⟨rfl,rfl,rfl,rfl⟩:=h
      split
      all_goals first
       | (exfalso;apply n1<;>assumption)
       | (exfalso;apply n2<;>assumption)
       | (exfalso;apply n3<;>assumption)
       | (exfalso;apply n4<;>assumption)
       | rfl
       | (exfalso;contradiction)
     ·cases h
    ·cases h
theorem Qk5 {s:FS} {s':FS} {d:Option Nat} {k:PK} {xs:List TV} {gd:Option (Nat × Bool)} {F:Foot} (hb:gB s gd=some true) (hok:gOk s gd) (h:Kj P c (.pd d k xs none) s F s'):Kj P c (.pd d k xs gd) s ⟨gdT gd++F.rt,F.rb,F.wt,F.wb⟩ s':=by
 intro ops io he
 obtain ⟨hgd,hdst,hd,ys,hel,rfl⟩:=Zd he
 obtain ⟨h1,h2,h3⟩:=h ops _ (Qq5 he)
 refine ⟨h1,h2,fun s2 hT hH g a w hR K Q' hK=>?_⟩
 have hg:∀ t b,gd=some (t,b)→s2.T t=s.T t:=fun t b e=>hT t (by simp[e,gdT])
 have hgB:gB s2 gd=gB s gd:=by
  cases gd with
  | none=>rfl
  | some p=>obtain ⟨t,b⟩:=p;simp only[gB,hg t b rfl]
 have hgO:gOk s2 gd:=by
  cases gd with
  | none=>exact hok
  | some p=>obtain ⟨t,b⟩:=p;simpa only[gOk,hg t b rfl] using hok
 have h4:=h3 s2 (fun i hi=>hT i (by simp[hi])) hH g a w hR K Q' hK
 unfold Qan at h4 ⊢
 rw[Qb9 hgd hR hgO,hgB,hb]
 rw[Qe5 rfl,if_pos rfl]at h4
 rw[Option.getD_some,if_pos rfl]
 exact h4
theorem Qg9 {r0:List TOp} {K:St→Prop} {s:St} {d:Option Nat} {k:PK} {xs:List TV} {gd:Option (Nat × Bool)} (hb:gB s.fs gd=some true) (hok:gOk s.fs gd) (h:Yc P c (.pd d k xs none) r0 K s):Yc P c (.pd d k xs gd) r0 K s:=by
 rcases h with ⟨F,s',h1,h2⟩|h
 ·exact .inl ⟨_,s',Qk5 hb hok h1,h2⟩
 ·refine .inr fun ops io he g a w hR K' Q' hK=>?_
  obtain ⟨hgd,hdst,hd,ys,hel,rfl⟩:=Zd he
  have h4:=h ops _ (Qq5 he) g a w hR K' Q' hK
  unfold Qan at h4 ⊢
  rw[Qb9 hgd hR hok,hb]
  rw[Qe5 rfl,if_pos rfl]at h4
  rw[Option.getD_some,if_pos rfl]
  exact h4
end
theorem Xd7 (f:FuncId) (caps r:List AV):Qeq (.cl f caps::r)=some (f,r++caps):=rfl
attribute [go_sem] Xd7
section
variable {P:Program} {c:Cx}
theorem z1 {o:TOp} {r:List TOp} {K:St→Prop} {s:St} (h:Yc P c o r K s):Yc P c o r K s:=h
theorem z2 {t:TC} {Q:EX→St→Prop} {s:St} (h:xw P c t Q s):xw P c t Q s:=h
theorem z3 {anc:List Nat} {o:TOp} {r:List TOp} {fs:List Foot} {K:St→Prop} {s:St} (h:Za P c anc o r fs K s):Za P c anc o r fs K s:=h
end
attribute [go_sem] if_true if_false List.length_replicate List.length_take List.length_drop List.length_set List.length_cons List.length_nil decide_true decide_false bne_self_eq_false beq_self_eq_true
def nvr (n:Nat):Nat:=n
theorem zf1:nvr 1=1:=rfl
theorem zf2:nvr 2=2:=rfl
theorem zf3:nvr 3=3:=rfl
theorem zf4:nvr 4=4:=rfl
theorem zf5:nvr 5=5:=rfl
theorem zf6:nvr 6=6:=rfl
theorem zf7:nvr 7=7:=rfl
theorem zf8:nvr 8=8:=rfl
theorem zf9:nvr 9=9:=rfl
class Main (p:Prop):Prop where
 it:True
instance {P:Program} {c:Cx} {o:TOp} {r:List TOp} {K:St→Prop} {s:St}:Main (Yc P c o r K s):=⟨trivial⟩
instance {P:Program} {c:Cx} {t:TC} {Q:EX→St→Prop} {s:St}:Main (xw P c t Q s):=⟨trivial⟩
instance {P:Program} {c:Cx} {anc:List Nat} {o:TOp} {r:List TOp} {fs:List Foot} {K:St→Prop} {s:St}:Main (Za P c anc o r fs K s):=⟨trivial⟩
instance {P:Program} {c:Cx} {b:TC} {Q:EX→St→Prop} {s:St}:Main (Qc3 P c b Q s):=⟨trivial⟩
theorem zm {p:Prop} [Main p] (h:p):p:=h
theorem XG {p q:Prop} (k:q) (h:p=q:=by (conv=>lhs;simp (disch:=first|omega|(simp only[go_sem]<;>omega)|fail) only[go_sem,↓reduceIte,Nat.reduceBEq,Nat.reduceAdd,Nat.reduceMul,Nat.reduceSub,Nat.reduceLT,Nat.reduceLeDiff,Nat.reduceEqDiff,Int.reduceToNat,Int.reduceBEq,Int.reduceBNe,Int.reduceLT,Int.reduceLE,Int.reduceEq,zf1,zf2,zf3,zf4,zf5,zf6,zf7,zf8,zf9])):p:=h.mpr k
theorem XM {p q:Prop} (k:q) (h:p=q:=by (conv=>lhs;simp (disch:=first|omega|(simp only[go_sem]<;>omega)|fail) only[go_sem,↓reduceIte,Nat.reduceBEq,Nat.reduceAdd,Nat.reduceMul,Nat.reduceSub,Nat.reduceLT,Nat.reduceLeDiff,Nat.reduceEqDiff,Int.reduceToNat,Int.reduceBEq,Int.reduceBNe,Int.reduceLT,Int.reduceLE,Int.reduceEq,Int.reduceMul,Int.reduceAdd,Int.reduceSub,zf1,zf2,zf3,zf4,zf5,zf6,zf7,zf8,zf9])):p:=h.mpr k
theorem CL {p:Prop} (h:p:=by (first|exact True.intro|omega|(show Ue _ _ _=true;decide +kernel)|(refine fun _=>?_;simp_all;done)|fail)):p:=h
theorem Qa {P:Program} {c:Cx} {Q:EX→St→Prop} {s:St} {x:TV} {a b:TC} {t:Bool} {A B:Prop} (ht:A→xw P c a Q s) (hf:B→xw P c b Q s)
  (h:evT c.gl s.fs x=.bool t:=by (refine XG ?_;first|exact rfl|exact True.intro|fail))
  (hA:(t=true)=A:=by (conv=>lhs;(try simp only[decide_eq_true_eq,decide_eq_false_iff_not,Bool.or_eq_true,Bool.and_eq_true,Bool.not_eq_true',Bool.or_eq_false_iff,Bool.and_eq_false_iff,Bool.not_eq_false',beq_iff_eq,bne_iff_ne,ne_eq,beq_eq_false_iff_ne,bne_eq_false_iff_eq,Bool.true_eq_false,Bool.false_eq_true,Decidable.not_not])))
  (hB:(t=false)=B:=by (conv=>lhs;(try simp only[decide_eq_true_eq,decide_eq_false_iff_not,Bool.or_eq_true,Bool.and_eq_true,Bool.not_eq_true',Bool.or_eq_false_iff,Bool.and_eq_false_iff,Bool.not_eq_false',beq_iff_eq,bne_iff_ne,ne_eq,beq_eq_false_iff_ne,bne_eq_false_iff_eq,Bool.true_eq_false,Bool.false_eq_true,Decidable.not_not]))):xw P c (.cond x a b) Q s :=
 Yau h (fun e=>ht (hA.mp e)) (fun e=>hf (hB.mp e))
structure HidQ (q:Prop):Prop where
 it:q
def Qgt (_:List Nat):Prop:=True
theorem ip (l:List Nat):Qgt l:=trivial
theorem An {p q:Prop} (a:p) (b:q):p∧q:=⟨a,b⟩
@[reducible] def inV {l:List Nat} (_:Qgt l):List Nat:=l
theorem Qd {p q:Prop} (k:q) (h:HidQ q→p:=by (intro zk;(refine XG ?_;(try (repeat' with_reducible refine And.intro ?_ ?_));(try any_goals (first|refine zm ?_|exact CL|fail)));exact zk.it)):p:=h ⟨k⟩
theorem Qs {p:Prop} (h:p:=by ((refine XG ?_;(try (repeat' with_reducible refine And.intro ?_ ?_));(try any_goals (first|refine zm ?_|exact CL|fail))))):p:=h
theorem Yt {FP:Prop} {p q:Prop} (fp:FP) (k:q) (h:FP→HidQ q→p:=by (intro zp zk;((first|apply Yq|apply Ya|apply Xs|apply Xm)<;>(first|exact zp|(refine XG ?_;first|exact rfl|exact True.intro|((try (repeat' with_reducible refine And.intro ?_ ?_));(try any_goals (first|refine zm ?_|exact CL|fail))))));exact zk.it)):p:=h fp ⟨k⟩
theorem Xy2 {FP:Prop} {p:Prop} (fp:FP) (h:FP→p:=by (intro zp;((first|apply Yq|apply Ya|apply Xs|apply Xm)<;>(first|exact zp|(refine XG ?_;first|exact rfl|exact True.intro|((try (repeat' with_reducible refine And.intro ?_ ?_));(try any_goals (first|refine zm ?_|exact CL|fail)))))))):p:=h fp
theorem Jh {p q:Prop} (k:q) (h:HidQ q→p:=by (intro zk;((first|apply Qgy|apply Qf7|apply Qh7|apply Qf5|apply Qhe|apply Qf8);refine XG ?_;(try (repeat' with_reducible refine And.intro ?_ ?_));(try any_goals (first|refine zm ?_|exact CL|fail)));exact zk.it)):p:=h ⟨k⟩
theorem Yb0 {p:Prop} (h:p:=by (((first|apply Qgy|apply Qf7|apply Qh7|apply Qf5|apply Qhe|apply Qf8);refine XG ?_;(try (repeat' with_reducible refine And.intro ?_ ?_));(try any_goals (first|refine zm ?_|exact CL|fail))))):p:=h
theorem Yb3 {li:List Nat} {FP:Prop} {p q:Prop} (fi:Qgt li) (fp:FP) (k:q) (h:Qgt li→FP→HidQ q→p:=by (intro zi zp zk;((first|refine Qy (ins:=inV zi) zp ?_ ?_|refine Qv (ins:=inV zi) zp ?_ ?_|refine Qu (ins:=inV zi) zp ?_ ?_|refine Qr (ins:=inV zi) zp ?_ ?_)<;>(dsimp only[inV];refine XG ?_;(try first|exact rfl|exact True.intro);(try (repeat' with_reducible refine And.intro ?_ ?_));(try any_goals (first|refine zm ?_|exact CL|fail))));exact zk.it)):p:=h fi fp ⟨k⟩
theorem Ybm {li:List Nat} {FP:Prop} {p:Prop} (fi:Qgt li) (fp:FP) (h:Qgt li→FP→p:=by (intro zi zp;((first|refine Qy (ins:=inV zi) zp ?_ ?_|refine Qv (ins:=inV zi) zp ?_ ?_|refine Qu (ins:=inV zi) zp ?_ ?_|refine Qr (ins:=inV zi) zp ?_ ?_)<;>(dsimp only[inV];refine XG ?_;(try first|exact rfl|exact True.intro);(try (repeat' with_reducible refine And.intro ?_ ?_));(try any_goals (first|refine zm ?_|exact CL|fail)))))):p:=h fi fp
theorem Uc {p q:Prop} (k:q) (h:HidQ q→p:=by (intro zk;(refine XM ?_;(try (repeat' with_reducible refine And.intro ?_ ?_));(try any_goals (first|refine zm ?_|exact CL|fail)));exact zk.it)):p:=h ⟨k⟩
theorem Yb9 {p:Prop} (h:p:=by ((refine XM ?_;(try (repeat' with_reducible refine And.intro ?_ ?_));(try any_goals (first|refine zm ?_|exact CL|fail))))):p:=h
theorem Qdm {FP:Prop} {p q:Prop} (fp:FP) (k:q) (h:FP→HidQ q→p:=by (intro zp zk;((first|apply Yq|apply Ya|apply Xs|apply Xm)<;>(first|exact zp|(refine XM ?_;first|exact rfl|exact True.intro|((try (repeat' with_reducible refine And.intro ?_ ?_));(try any_goals (first|refine zm ?_|exact CL|fail))))));exact zk.it)):p:=h fp ⟨k⟩
theorem Qg {F:Prop} {p q:Prop} (f:F) (k:q) (h:F→HidQ q→p:=by (intro zf1 zk;exact Qd zk.it)):p:=h f ⟨k⟩
theorem Qq {F:Prop} {p:Prop} (f:F) (h:F→p:=by (intro zf1;exact Qs )):p:=h f
theorem Xa {FP:Prop} {F:Prop} {p q:Prop} (fp:FP) (f:F) (k:q) (h:FP→F→HidQ q→p:=by (intro zp zf1 zk;exact Yt zp zk.it)):p:=h fp f ⟨k⟩
theorem Qjq {FP:Prop} {F:Prop} {p:Prop} (fp:FP) (f:F) (h:FP→F→p:=by (intro zp zf1;exact Xy2 zp)):p:=h fp f
theorem Zr {F:Prop} {p q:Prop} (f:F) (k:q) (h:F→HidQ q→p:=by (intro zf1 zk;exact Jh zk.it)):p:=h f ⟨k⟩
theorem Ybl {F:Prop} {p:Prop} (f:F) (h:F→p:=by (intro zf1;exact Yb0 )):p:=h f
theorem Qla {li:List Nat} {FP:Prop} {F:Prop} {p q:Prop} (fi:Qgt li) (fp:FP) (f:F) (k:q) (h:Qgt li→FP→F→HidQ q→p:=by (intro zi zp zf1 zk;exact Yb3 zi zp zk.it)):p:=h fi fp f ⟨k⟩
theorem Js {li:List Nat} {FP:Prop} {F:Prop} {p:Prop} (fi:Qgt li) (fp:FP) (f:F) (h:Qgt li→FP→F→p:=by (intro zi zp zf1;exact Ybm zi zp)):p:=h fi fp f
theorem Zk {F:Prop} {p q:Prop} (f:F) (k:q) (h:F→HidQ q→p:=by (intro zf1 zk;exact Uc zk.it)):p:=h f ⟨k⟩
theorem Qb1 {F:Prop} {p:Prop} (f:F) (h:F→p:=by (intro zf1;exact Yb9 )):p:=h f
theorem Qp8 {FP:Prop} {F:Prop} {p q:Prop} (fp:FP) (f:F) (k:q) (h:FP→F→HidQ q→p:=by (intro zp zf1 zk;exact Qdm zp zk.it)):p:=h fp f ⟨k⟩
theorem Qnd:FT Tryz.prog 135 Tryz.f135 (tcO Tryz.prog Tryz.f135) [.t 4,.t 5]:=.of Tryz.func135
theorem Ql7:FT Tryz.prog 83 Tryz.f83 (tcO Tryz.prog Tryz.f83) [.t 2,.t 3]:=.of Tryz.func83
theorem Xfw:FT Tryz.prog 85 Tryz.f85 (tcO Tryz.prog Tryz.f85) [.t 2]:=.of Tryz.func85
theorem Qmc:FT Tryz.prog 122 Tryz.f122 (tcO Tryz.prog Tryz.f122) [.t 6]:=.of Tryz.func122
theorem Xdi:FT Tryz.prog 123 Tryz.f123 (tcO Tryz.prog Tryz.f123) [.t 8,.t 9]:=.of Tryz.func123
structure rPutI where
 k:Nat
 l:List UInt8
theorem Qz (gl:Nat→AV) (l:List UInt8) (v:Int) (n:Nat) (hn:n≤8) (hl:l.length≤100000000) :
  GS Tryz.prog gl 122 [.sl 1 0 0 l.length l.length,.int .i64 v,.int .i64 n] [(0,.cells (Xk l))] 1 (.sl 1 1 0 (l.length + n) (l.length + n)) [(1,.cells (Xk (l++be v n)))] 2:=by
 refine Qmc.gs (of_decide_eq_true rfl) (by simp[Bk.live]) fun c hgh hg=>?_
 conv in tcO _ _=>cbv
 refine Qd ?_
 refine Uq (fun x:rPutI=>x.k≤n∧x.l++be v x.k=l++be v n) (fun x=>⟨[(0,.sl 1 1 0 x.l.length x.l.length),(1,.int .i64 v),(7,.int .i64 ((x.k:Int) - 1))],[(1,.cells (Xk x.l))],2⟩) (fun x=>x.k) Qmc.mixed 1 hgh
  ⟨⟨n,l⟩,⟨Nat.le_refl _,rfl⟩,[(1,0)],by exact Qs⟩ fun ⟨k,l'⟩ ⟨hk,he⟩=>?_
 dsimp only at hk he
 refine Qd ?_
 have hll:l'.length + k=l.length + n:=by
  have:=congrArg List.length he
  simpa [Qh] using this
 (refine Qa (fun h1=>?_) (fun h1=>?_)<;>try exact h1.elim)
 ·obtain ⟨k,rfl⟩:∃ j,k=j + 1:=⟨k - 1,by omega⟩
  have e1:(((k + 1:Nat):Int) - 1)=k:=by omega
  rw[e1]at h1 ⊢
  refine Qd ?_
  refine Jh ?_
  refine Jh ?_
  refine ⟨⟨k,l'++[Qf v k]⟩,⟨by dsimp only;omega,?_⟩,⟨[(1,3)],?_⟩,by dsimp only;omega⟩
  ·simpa [be] using he
  ·refine Qd ?_
   rfl
 ·have hk0:k=0:=by omega
  subst hk0
  simp only[be,List.append_nil]at he
  subst he
  refine Qd ?_
  refine ⟨[],?_⟩
  exact Qq @Qh
structure rPutN where
 k:Nat
 l:Option (List UInt8)
theorem Wy (gl:Nat→AV) (v:Int) (n:Nat) (hn:n≤8) (h0:0 < n) :
  GS Tryz.prog gl 122 [.nils,.int .i64 v,.int .i64 n] [] 0 (.sl 1 0 0 n n) [(0,.cells (Xk (be v n)))] 1:=by
 refine Qmc.gs (of_decide_eq_true rfl) Zsi fun c hgh hg=>?_
 conv in tcO _ _=>cbv
 refine Qd ?_
 refine Uq (fun x:rPutN=>x.k≤n∧(x.l.getD [])++be v x.k=be v n∧(x.l=none→x.k=n)) (fun x=>match x.l with|none=>⟨[(0,.nils),(1,.int .i64 v),(7,.int .i64 ((x.k:Int) - 1))],[],0⟩|some l=>⟨[(0,.sl 1 0 0 l.length l.length),(1,.int .i64 v),(7,.int .i64 ((x.k:Int) - 1))],[(0,.cells (Xk l))],1⟩) (fun x=>x.k) Qmc.mixed 0 hgh
  ⟨⟨n,none⟩,⟨Nat.le_refl _,rfl,fun _=>rfl⟩,[],by exact Qs⟩ fun ⟨k,o⟩ ⟨hk,he,hno⟩=>?_
 cases o with
 | none =>
  dsimp only at hk he hno
  obtain rfl:=hno rfl
  refine Qd ?_
  (refine Qa (fun h1=>?_) (fun h1=>?_)<;>try exact h1.elim)
  ·obtain ⟨k,rfl⟩:∃ j,k=j + 1:=⟨k - 1,by omega⟩
   have e1:(((k + 1:Nat):Int) - 1)=k:=by omega
   rw[e1]at h1 ⊢
   refine Qd ?_
   refine Jh ?_
   refine Jh ?_
   refine ⟨⟨k,some [Qf v k]⟩,⟨by dsimp only;omega,?_,fun h=>by cases h⟩,⟨[(0,1)],?_⟩,by dsimp only;omega⟩
   ·simp[be]
   ·refine Qd ?_
    exact Qhj [] _ []
  ·omega
 | some l' =>
  dsimp only[Option.getD_some]at hk he hno
  have hll:l'.length + k=n:=by
   have:=congrArg List.length he
   simpa [Qh] using this
  refine Qd ?_
  (refine Qa (fun h1=>?_) (fun h1=>?_)<;>try exact h1.elim)
  ·obtain ⟨k,rfl⟩:∃ j,k=j + 1:=⟨k - 1,by omega⟩
   have e1:(((k + 1:Nat):Int) - 1)=k:=by omega
   rw[e1]at h1 ⊢
   refine Qd ?_
   refine Jh ?_
   refine Jh ?_
   refine ⟨⟨k,some (l'++[Qf v k])⟩,⟨by dsimp only;omega,?_,fun h=>by cases h⟩,⟨[(0,2)],?_⟩,by dsimp only;omega⟩
   ·simpa [be] using he
   ·refine Qd ?_
    rfl
  ·have hk0:k=0:=by omega
   subst hk0
   simp only[be,List.append_nil]at he
   subst he
   refine Qd ?_
   refine ⟨[],?_⟩
   exact Qq @Qh
def Wv (t s a b:Int):Bool:=decide (0≤t) && decide (t≤1099511627776) && decide (0≤s) && decide (s < 8) && decide (0≤a) && decide (a < 3) && decide (0≤b) && decide (b < 6)
def Qop (t s a b:Int):Int:=if Wv t s a b=true then 0 else 2
theorem Xdk (gl:Nat→AV) (t s a b:Int) (f:Bool):PS Tryz.prog gl 85 [.agg [.int .i64 t,.int .i64 s,.int .i64 a,.int .i64 b,.bool f]] (.int .i64 (Qop t s a b)):=by
 refine Xfw.ps (of_decide_eq_true rfl) (by simp[Qe]) fun c hN hg=>?_
 conv in tcO _ _=>cbv
 refine Qd ?_
 (repeat' (first|((refine Qa (fun hh=>?_) (fun hh=>?_)<;>try exact hh.elim)<;>refine Qd ?_) ))
 ·unfold Qop Wv;rw[if_neg];simp;omega
 ·unfold Qop Wv;rw[if_pos];simp;omega
def Qen (seq time set:Int) (bs:List UInt8):List UInt8:=be 10 2++be (20 + bs.length) 2++be (time.tmod 4294967296) 4++be seq 4++be 1 4++be set 2++be (4 + bs.length) 2++bs
def Qb8 (seq time set:Int) (bs:List UInt8):AV:=if 0≤seq∧seq < 4294967296 then .tup [.str (Qen seq time set bs),.int .i64 0] else .tup [.str [],.int .i64 2]
theorem Qno (gl:Nat→AV) (seq time set:Int) (bs:List UInt8) (hl:bs.length≤10000000):PS Tryz.prog gl 123 [.int .i64 seq,.int .i64 time,.int .i64 set,.isl bs.length (Xk bs)] (Qb8 seq time set bs):=by
 refine Xdi.ps (of_decide_eq_true rfl) (by unfold Qb8;split<;>simp[Qe,nmAll]) fun c hN hg=>?_
 conv in tcO _ _=>cbv
 refine Qd ?_
 (refine Qa (fun h1=>?_) (fun h1=>?_)<;>try exact h1.elim)
 ·refine Qd ?_
  unfold Qb8;rw[if_neg Zom]
 ·refine Qd ?_
  ((first|refine Qy (ins:=[]) (Wy c.gl 10 2 (by decide) (by decide)) ?_ ?_|refine Qv (ins:=[]) (Wy c.gl 10 2 (by decide) (by decide)) ?_ ?_|refine Qu (ins:=[]) (Wy c.gl 10 2 (by decide) (by decide)) ?_ ?_|refine Qr (ins:=[]) (Wy c.gl 10 2 (by decide) (by decide)) ?_ ?_)<;>(have zf1:=@Qh;refine XG ?_;clear zf1;(try first|exact rfl|exact True.intro);((try (repeat' with_reducible refine And.intro ?_ ?_));(try any_goals (first|refine zm ?_|exact CL|fail)))))
  ((first|refine Qy (ins:=[0]) (Qz c.gl (be 10 2) (20 + bs.length) 2 (by decide) (by simp[Qh])) ?_ ?_|refine Qv (ins:=[0]) (Qz c.gl (be 10 2) (20 + bs.length) 2 (by decide) (by simp[Qh])) ?_ ?_|refine Qu (ins:=[0]) (Qz c.gl (be 10 2) (20 + bs.length) 2 (by decide) (by simp[Qh])) ?_ ?_|refine Qr (ins:=[0]) (Qz c.gl (be 10 2) (20 + bs.length) 2 (by decide) (by simp[Qh])) ?_ ?_)<;>(have zf1:=@Qh;refine XG ?_;clear zf1;(try first|exact rfl|exact True.intro);((try (repeat' with_reducible refine And.intro ?_ ?_));(try any_goals (first|refine zm ?_|exact CL|fail)))))
  ((first|refine Qy (ins:=[1]) (Qz c.gl (be 10 2++be (20 + bs.length) 2) (time.tmod 4294967296) 4 (by decide) (by simp[Qh])) ?_ ?_|refine Qv (ins:=[1]) (Qz c.gl (be 10 2++be (20 + bs.length) 2) (time.tmod 4294967296) 4 (by decide) (by simp[Qh])) ?_ ?_|refine Qu (ins:=[1]) (Qz c.gl (be 10 2++be (20 + bs.length) 2) (time.tmod 4294967296) 4 (by decide) (by simp[Qh])) ?_ ?_|refine Qr (ins:=[1]) (Qz c.gl (be 10 2++be (20 + bs.length) 2) (time.tmod 4294967296) 4 (by decide) (by simp[Qh])) ?_ ?_)<;>(have zf1:=@Qh;refine XG ?_;clear zf1;(try first|exact rfl|exact True.intro);((try (repeat' with_reducible refine And.intro ?_ ?_));(try any_goals (first|refine zm ?_|exact CL|fail)))))
  ((first|refine Qy (ins:=[2]) (Qz c.gl (be 10 2++be (20 + bs.length) 2++be (time.tmod 4294967296) 4) seq 4 (by decide) (by simp[Qh])) ?_ ?_|refine Qv (ins:=[2]) (Qz c.gl (be 10 2++be (20 + bs.length) 2++be (time.tmod 4294967296) 4) seq 4 (by decide) (by simp[Qh])) ?_ ?_|refine Qu (ins:=[2]) (Qz c.gl (be 10 2++be (20 + bs.length) 2++be (time.tmod 4294967296) 4) seq 4 (by decide) (by simp[Qh])) ?_ ?_|refine Qr (ins:=[2]) (Qz c.gl (be 10 2++be (20 + bs.length) 2++be (time.tmod 4294967296) 4) seq 4 (by decide) (by simp[Qh])) ?_ ?_)<;>(have zf1:=@Qh;refine XG ?_;clear zf1;(try first|exact rfl|exact True.intro);((try (repeat' with_reducible refine And.intro ?_ ?_));(try any_goals (first|refine zm ?_|exact CL|fail)))))
  ((first|refine Qy (ins:=[3]) (Qz c.gl (be 10 2++be (20 + bs.length) 2++be (time.tmod 4294967296) 4++be seq 4) 1 4 (by decide) (by simp[Qh])) ?_ ?_|refine Qv (ins:=[3]) (Qz c.gl (be 10 2++be (20 + bs.length) 2++be (time.tmod 4294967296) 4++be seq 4) 1 4 (by decide) (by simp[Qh])) ?_ ?_|refine Qu (ins:=[3]) (Qz c.gl (be 10 2++be (20 + bs.length) 2++be (time.tmod 4294967296) 4++be seq 4) 1 4 (by decide) (by simp[Qh])) ?_ ?_|refine Qr (ins:=[3]) (Qz c.gl (be 10 2++be (20 + bs.length) 2++be (time.tmod 4294967296) 4++be seq 4) 1 4 (by decide) (by simp[Qh])) ?_ ?_)<;>(have zf1:=@Qh;refine XG ?_;clear zf1;(try first|exact rfl|exact True.intro);((try (repeat' with_reducible refine And.intro ?_ ?_));(try any_goals (first|refine zm ?_|exact CL|fail)))))
  ((first|refine Qy (ins:=[4]) (Qz c.gl (be 10 2++be (20 + bs.length) 2++be (time.tmod 4294967296) 4++be seq 4++be 1 4) set 2 (by decide) (by simp[Qh])) ?_ ?_|refine Qv (ins:=[4]) (Qz c.gl (be 10 2++be (20 + bs.length) 2++be (time.tmod 4294967296) 4++be seq 4++be 1 4) set 2 (by decide) (by simp[Qh])) ?_ ?_|refine Qu (ins:=[4]) (Qz c.gl (be 10 2++be (20 + bs.length) 2++be (time.tmod 4294967296) 4++be seq 4++be 1 4) set 2 (by decide) (by simp[Qh])) ?_ ?_|refine Qr (ins:=[4]) (Qz c.gl (be 10 2++be (20 + bs.length) 2++be (time.tmod 4294967296) 4++be seq 4++be 1 4) set 2 (by decide) (by simp[Qh])) ?_ ?_)<;>(have zf1:=@Qh;refine XG ?_;clear zf1;(try first|exact rfl|exact True.intro);((try (repeat' with_reducible refine And.intro ?_ ?_));(try any_goals (first|refine zm ?_|exact CL|fail)))))
  ((first|refine Qy (ins:=[5]) (Qz c.gl (be 10 2++be (20 + bs.length) 2++be (time.tmod 4294967296) 4++be seq 4++be 1 4++be set 2) (4 + bs.length) 2 (by decide) (by simp[Qh])) ?_ ?_|refine Qv (ins:=[5]) (Qz c.gl (be 10 2++be (20 + bs.length) 2++be (time.tmod 4294967296) 4++be seq 4++be 1 4++be set 2) (4 + bs.length) 2 (by decide) (by simp[Qh])) ?_ ?_|refine Qu (ins:=[5]) (Qz c.gl (be 10 2++be (20 + bs.length) 2++be (time.tmod 4294967296) 4++be seq 4++be 1 4++be set 2) (4 + bs.length) 2 (by decide) (by simp[Qh])) ?_ ?_|refine Qr (ins:=[5]) (Qz c.gl (be 10 2++be (20 + bs.length) 2++be (time.tmod 4294967296) 4++be seq 4++be 1 4++be set 2) (4 + bs.length) 2 (by decide) (by simp[Qh])) ?_ ?_)<;>(have zf1:=@Qh;refine XG ?_;clear zf1;(try first|exact rfl|exact True.intro);((try (repeat' with_reducible refine And.intro ?_ ?_));(try any_goals (first|refine zm ?_|exact CL|fail)))))
  refine Zr @Qh ?_
  unfold Qb8 Qen
  rw[if_pos Zom,List.take_of_length_le (by simp[Qh])]
def Xo:List Int:=[323,8,8,4,225,4,361,2,362,2,230,1]
def Ud (k:Nat):List UInt8:=be 300 2++be 6 2++(Xo.take (2 * k)).flatMap fun f=>be f 2
theorem Qsz:∀ k,k≤6→(Ud k).length=4 + 4 * k:=by decide +kernel
theorem Xne:∀ k,k < 6→Ud k++be (Xo.getD (2 * k) 0) 2++be (Xo.getD (2 * k + 1) 0) 2=Ud (k + 1):=by decide +kernel
theorem Qy9 (gl:Nat→AV) (h0:gl 0=.xp (Qp Xo) 0) (seq:Int):PS Tryz.prog gl 83 [.int .i64 seq] (Qb8 seq 0 2 (Ud 6)):=by
 refine Ql7.ps (of_decide_eq_true rfl) (by unfold Qb8;split<;>simp[Qe,nmAll]) fun c hN hg=>?_
 conv in tcO _ _=>cbv
 have hg0:c.gl 0=.xp (Qp Xo) 0:=by rw[hg];exact h0
 have hf:Xo.length=12:=rfl
 refine Qd ?_
 ((first|refine Qy (ins:=[]) (Wy c.gl 300 2 (by decide) (by decide)) ?_ ?_|refine Qv (ins:=[]) (Wy c.gl 300 2 (by decide) (by decide)) ?_ ?_|refine Qu (ins:=[]) (Wy c.gl 300 2 (by decide) (by decide)) ?_ ?_|refine Qr (ins:=[]) (Wy c.gl 300 2 (by decide) (by decide)) ?_ ?_)<;>(have zf1:=@Qh;refine XG ?_;clear zf1;(try first|exact rfl|exact True.intro);((try (repeat' with_reducible refine And.intro ?_ ?_));(try any_goals (first|refine zm ?_|exact CL|fail)))))
 ((first|refine Qy (ins:=[0]) (Qz c.gl (be 300 2) 6 2 (by decide) (by simp[Qh])) ?_ ?_|refine Qv (ins:=[0]) (Qz c.gl (be 300 2) 6 2 (by decide) (by simp[Qh])) ?_ ?_|refine Qu (ins:=[0]) (Qz c.gl (be 300 2) 6 2 (by decide) (by simp[Qh])) ?_ ?_|refine Qr (ins:=[0]) (Qz c.gl (be 300 2) 6 2 (by decide) (by simp[Qh])) ?_ ?_)<;>(have zf1:=@Qh;have zf2:=@hg0;have zf3:=@hf;refine XG ?_;clear zf1 zf2 zf3;(try first|exact rfl|exact True.intro);((try (repeat' with_reducible refine And.intro ?_ ?_));(try any_goals (first|refine zm ?_|exact CL|fail)))))
 refine Xl (fun k:Nat=>k≤6) (fun k=>⟨[(0,.int .i64 seq),(4,.sl 1 0 0 (4 + 4 * k) (4 + 4 * k)),(10,.agg (Qp Xo)),(11,.int .i64 k)],[(0,.cells (Xk (Ud k)))],1⟩) (fun k=>6 - k) Ql7.mixed hN
  ⟨0,by omega,[(0,1)],by refine Qd ?_;rfl⟩ fun k hk=>?_
 refine Qd ?_
 (refine Qa (fun h1=>?_) (fun h1=>?_)<;>try exact h1.elim)
 ·have hk6:k < 6:=by omega
  have hl:=Qsz k hk
  have hs:=Xne k hk6
  have hl2:(Ud k).length≤100000000:=by omega
  have e3:k * 2=2 * k:=by omega
  refine Qg @hf ?_
  ((first|refine Qy (ins:=[0]) (Qz c.gl (Ud k) (Xo.getD (2 * k) 0) 2 (by decide) hl2) ?_ ?_|refine Qv (ins:=[0]) (Qz c.gl (Ud k) (Xo.getD (2 * k) 0) 2 (by decide) hl2) ?_ ?_|refine Qu (ins:=[0]) (Qz c.gl (Ud k) (Xo.getD (2 * k) 0) 2 (by decide) hl2) ?_ ?_|refine Qr (ins:=[0]) (Qz c.gl (Ud k) (Xo.getD (2 * k) 0) 2 (by decide) hl2) ?_ ?_)<;>(have zf1:=@Qh;have zf2:=@hf;have zf3:=@hl;have zf4:=@e3;refine XG ?_;clear zf1 zf2 zf3 zf4;(try first|exact rfl|exact True.intro);((try (repeat' with_reducible refine And.intro ?_ ?_));(try any_goals (first|refine zm ?_|exact CL|fail)))))
  ((first|refine Qy (ins:=[2]) (Qz c.gl (Ud k++be (Xo.getD (2 * k) 0) 2) (Xo.getD (2 * k + 1) 0) 2 (by decide) (by simp[Qh];omega)) ?_ ?_|refine Qv (ins:=[2]) (Qz c.gl (Ud k++be (Xo.getD (2 * k) 0) 2) (Xo.getD (2 * k + 1) 0) 2 (by decide) (by simp[Qh];omega)) ?_ ?_|refine Qu (ins:=[2]) (Qz c.gl (Ud k++be (Xo.getD (2 * k) 0) 2) (Xo.getD (2 * k + 1) 0) 2 (by decide) (by simp[Qh];omega)) ?_ ?_|refine Qr (ins:=[2]) (Qz c.gl (Ud k++be (Xo.getD (2 * k) 0) 2) (Xo.getD (2 * k + 1) 0) 2 (by decide) (by simp[Qh];omega)) ?_ ?_)<;>(have zf1:=@Qh;have zf2:=@hf;have zf3:=@hl;have zf4:=@e3;refine XG ?_;clear zf1 zf2 zf3 zf4;(try first|exact rfl|exact True.intro);((try (repeat' with_reducible refine And.intro ?_ ?_));(try any_goals (first|refine zm ?_|exact CL|fail)))))
  refine ⟨k + 1,by omega,⟨[(0,3)],?_⟩,by omega⟩
  exact Qq @hs
 ·have:k=6:=by omega
  subst this
  have h28:(Ud 6).length=28:=Qsz 6 Zom
  have hm:=Qno c.gl seq 0 2 (Ud 6) Zom
  rw[h28]at hm
  by_cases hq:0≤seq∧seq < 4294967296
  ·have e:Qb8 seq 0 2 (Ud 6)=.tup [.str (Qen seq 0 2 (Ud 6)),.int .i64 0]:=if_pos hq
   rw[e]at hm ⊢
   refine Qd ?_
   ((first|apply Wg|apply Ke)<;>(first|exact hm|(with_reducible exact .tup (by simp[Jm.str,Jm.int]))|(have zf1:=@h28;refine XG ?_;clear zf1;first|exact rfl|exact True.intro|((try (repeat' with_reducible refine And.intro ?_ ?_));(try any_goals (first|refine zm ?_|exact CL|fail))))))
  ·have e:Qb8 seq 0 2 (Ud 6)=.tup [.str [],.int .i64 2]:=if_neg hq
   rw[e]at hm ⊢
   refine Qd ?_
   ((first|apply Wg|apply Ke)<;>(first|exact hm|(with_reducible exact .tup (by simp[Jm.str,Jm.int]))|(have zf1:=@h28;refine XG ?_;clear zf1;first|exact rfl|exact True.intro|((try (repeat' with_reducible refine And.intro ?_ ?_));(try any_goals (first|refine zm ?_|exact CL|fail))))))
end Go.Proofs.YtogckmommodmhaaGreatDoor
namespace Go.Proofs.YtogckmommodmhaaGreatDoor
open Go.ChangeShapes Go.WideShapes Go.ChangeAt Go.WideMaps Go.WideElems Go.RowKit
open Go.RowKit
set_option linter.all false
set_option linter.unusedSimpArgs false
set_option maxRecDepth 100000
noncomputable def Qdb : List (String × DataW Unit) := [("rentroll/record.fields", Rows.laid_rentroll_record_fields)]
theorem Xus : Tryz.prog.globalNamed "rentroll/record.fields" = some 0 := by kernel_rfl
theorem Xtt:(Tryz.prog.globals[0]?).map (·.type)=some 156:=by kernel_rfl
theorem uF6:Tryz.prog.underlying 156=some (.array 6 155):=by kernel_rfl
theorem uF2:Tryz.prog.underlying 155=some (.array 2 3):=by kernel_rfl
theorem cF2:Tryz.prog.cellsOf 155=2:=by kernel_rfl
theorem cF1:Tryz.prog.cellsOf 3=1:=by kernel_rfl
theorem cF6:Tryz.prog.cellsOf 156=12:=by kernel_rfl
def Xg5:List (Int × Int):=[(323,8),(8,4),(225,4),(361,2),(362,2),(230,1)]
theorem Xtz:(Rows.laid_rentroll_record_fields:DataW Unit)=.agg (Xg5.map fun p=>.agg [.lit (.int .i64 p.1),.lit (.int .i64 p.2)]):=rfl
theorem Qls (os:Os) (args:Array Value):laidMetH Tryz.prog Qdb ((World.doorLaid Tryz.prog 400 os).forCall (fun _ _=>0) ⟨#[],args,[]⟩).memory :=
 laidMetH_of_parts3 (fuel:=8) (laidMet_of_run' 8 (by kernel_rfl) (by kernel_rfl)) (by kernel_rfl) (by kernel_rfl)
theorem Qoy {W:World} (h:laidMetH Tryz.prog Qdb W):∀ j,j < 12→W.cell? ⟨0,j,none⟩=some (.int .i64 (Xo.getD j 0)):=by
 rw[MakeChecks.laidMetH_plain _ _ _ (by kernel_rfl)]at h
 obtain ⟨ps,⟨g0,t0,cs0,f0,p0,q0,hg0,ht0,hv0,hd0,_,_⟩,_,_⟩:=h
 obtain rfl:=Option.some.inj (Xus.symm.trans hg0)
 obtain rfl:=Option.some.inj (Xtt.symm.trans ht0)
 obtain ⟨xs,m1,rfl,hx1,hlen,hn6,hel⟩:=DataW.trod_array uF6 hd0
 rw[cF6]at hlen
 rw[Xtz]at hx1
 simp only[Prod.mk.injEq,DataW.agg.injEq]at hx1
 have key:∀ i,i < 6→∀ k,k < 2→cs0.toList[i * 2 + k]?=some (.int .i64 (Xo.getD (i * 2 + k) 0)):=by
  intro i hi k hk
  have h1:=hel i hi
  rw[cF2]at h1
  have hxi:xs[i]?=some (xs[i]'Zom):=List.getElem?_eq_getElem Zom
  rw[hxi]at h1
  obtain ⟨ys,m2,rfl,hy,hyl,hy2,hey⟩:=DataW.trod_array uF2 h1
  have hk1:=hey k hk
  rw[cF1]at hk1
  have hyk:ys[k]?=some (ys[k]'Zom):=List.getElem?_eq_getElem Zom
  rw[hyk]at hk1
  obtain ⟨z,e1,e2,_⟩:=DataW.trod_int Tryz.underlying3 hk1
  have hdi:(xs[i]'Zom).1=.agg (ys.map (·.1)):=by rw[hy]
  have hL:(xs.map (·.1))[i]?=some (.agg (ys.map (·.1))):=by rw[List.getElem?_map,hxi,Option.map_some,hdi]
  rw[← hx1.1]at hL
  have hz:(ys.map (·.1))[k]?=some (.lit (.int .i64 z)):=by rw[List.getElem?_map,hyk,Option.map_some,e2]
  have hcell:cs0.toList[i * 2 + k]?=some (.int .i64 z):=by
   have:((((cs0.toList.drop (i * 2)).take 2).drop (k * 1)).take 1)[0]?=some (.int .i64 z):=by rw[e1];rfl
   rw[List.getElem?_take,if_pos Zom,List.getElem?_drop,List.getElem?_take,if_pos Zom,List.getElem?_drop]at this
   simpa using this
  rw[hcell]
  have hall:∀ i,i < 6→∀ k,k < 2→∀ l:List (DataW Unit),(Xg5.map fun p=>(DataW.agg [.lit (.int .i64 p.1),.lit (.int .i64 p.2)]:DataW Unit))[i]?=some (.agg l)→l[k]?=some (.lit (.int .i64 (Xo.getD (i * 2 + k) 0))):=by
   intro i hi k hk l hl
   match i,k,hi,hk,hl with
   | 0,0,_,_,hl=>cases hl;rfl
   | 0,1,_,_,hl=>cases hl;rfl
   | 1,0,_,_,hl=>cases hl;rfl
   | 1,1,_,_,hl=>cases hl;rfl
   | 2,0,_,_,hl=>cases hl;rfl
   | 2,1,_,_,hl=>cases hl;rfl
   | 3,0,_,_,hl=>cases hl;rfl
   | 3,1,_,_,hl=>cases hl;rfl
   | 4,0,_,_,hl=>cases hl;rfl
   | 4,1,_,_,hl=>cases hl;rfl
   | 5,0,_,_,hl=>cases hl;rfl
   | 5,1,_,_,hl=>cases hl;rfl
  have:=hall i hi k hk _ hL
  rw[hz]at this
  simp only[Option.some.injEq,DataW.lit.injEq,Lit.int.injEq,true_and]at this
  rw[this]
 intro j hj
 rw[World.var?_cell hg0 hv0 j,← Array.getElem?_toList]
 have:=key (j / 2) Zom (j % 2) Zom
 rwa [show j / 2 * 2 + j % 2=j by omega]at this
def glF (i:Nat):AV:=if i=0 then .xp (Qp Xo) 0 else .any
theorem Xdo:glF 0=.xp (Qp Xo) 0:=rfl
theorem Xy0 {W:World} (h:∀ j,j < 12→W.cell? ⟨0,j,none⟩=some (.int .i64 (Xo.getD j 0))) (i:Nat):VR (fun _=>.un) (fun _=>False) W (glF i) (.pointer (some ⟨i,0,none⟩)):=by
 unfold glF
 split
 ·rename_i e
  subst e
  have hl:(Qp Xo).length=12:=rfl
  have hx:=VR.xp (g:=fun _=>GM.un) (W:=fun _=>False) (w:=W) (cs:=Qp Xo) (off:=0) (k:=0) (o:=0) (us:=fun j=>.int .i64 (Xo.getD j 0)) (fun j hj=>by
   rw[hl]at hj
   exact ⟨by have:=h j hj;rw[Nat.zero_add];exact this,id,rfl⟩) (fun j hj=>by
   rw[hl]at hj
   rw[Qdy (show j < Xo.length from hj)]
   exact .int _ _)
  simpa using hx
 ·exact .any _
set_option maxRecDepth 100000 in
theorem Qgp {f:FuncId} {fn:Func} (noInit:Tryz.prog.inits.idxOf? f=none) (hfn:Tryz.prog.funcs[f]?=some fn)
  (hrd:∀ t ∈ fn.params.toList,Tryz.prog.readableRec t=true∧t < Tryz.prog.types.size) (hres:fn.resultTypes=#[4])
  (s:ChangeSpec) (hv:s.vars=[]) (hs:∀ (H:Type) (ds:List (DataW H)),ds.length=fn.params.size→s.fn H ds={ results:=[.lit (.bool true)],args:=ds,vars:=[] })
  (os:Os) (started:os.Started) (H:Type) (enc:TypeId × Value→H)
  (witness:∃ (w:World) (tape:Tape) (i:Input),w.os=os∧(w.forCall tape i).Shaped Tryz.prog∧i.vars=[]∧Input.okWide Tryz.prog (w.forCall tape i) .any w.heap.size f i ∧
   ((s.pre enc Tryz.prog fn [] false (w.forCall tape i).memory i.args∧laidMetH Tryz.prog Qdb (w.forCall tape i).memory)∧sizedMet enc Tryz.prog fn (OpenSpec.ofChange s) false (w.forCall tape i).memory i.args)∧({}:Assume).holds Tryz.prog (lone (Frame.enter Tryz.prog f i.args .normal) [] (w.forCall tape i)))
  (contract:∀ (W:World) (base:Nat) (args:Array Value) (ds:List (DataW H)),ArgsIn H enc Tryz.prog fn W base args ds→(∀ i,VR (fun _=>.un) (fun _=>False) W (glF i) (.pointer (some ⟨i,0,none⟩))) →
   Calls Tryz.prog f args W fun e W'=>e=.returned (.bool true)∧Below W.heap.size W W') :
  ReturnsInHanded {} Tryz.checked os f .any (fun w args=>(s.pre enc Tryz.prog fn [] false w args∧laidMetH Tryz.prog Qdb w)∧sizedMet enc Tryz.prog fn (OpenSpec.ofChange s) false w args) (s.post enc Tryz.prog fn false true false false):=by
 refine returnsInHanded_of_change_and (C:=Tryz.checked) (X:=fun w _=>laidMetH Tryz.prog Qdb w) (fun _ _ _ hh h=>h.of_heap hh) Tryz.own started noInit hfn witness ?_
 intro W base args ds gs before hval hW _ hsz hL _
 have hW':=hW
 obtain ⟨p,q,hA,hV,rfl,hfz,hnd⟩:=hW
 have hgs:gs=[]∧q=[]:=by
  rw[hv]at hV
  exact trodVars_none hV
 obtain ⟨rfl,rfl⟩:=hgs
 have hty:s.plain.varTypes Tryz.checked.prog=[]:=by
  simp[ChangeSpec.plain,hv,DataSpec.varTypes]
 rw[hty,List.append_nil,List.append_nil]at hsz
 refine (contract W base args ds ⟨hval,⟨p,hA⟩,hsz⟩ (Xy0 (Qoy hL))).mono fun e W' ⟨he,bel⟩=>?_
 subst he
 have hlen:ds.length=fn.params.size:=by rw[Qh2 hA];simp
 have hS:=hs H (ds++[]) (by simpa using hlen)
 refine ⟨_,rfl,ds,[],p++[],[],p,[],hW',?_,?_,?_,bel.frame _,fun h=>by cases h⟩
 ·rw[hS,hres]
  exact trodAll_mk1 (shut_bool Tryz.underlying4 _)
 ·rw[hS]
  simp only[List.append_nil]
  exact Qiq Tryz.laidOut bel hrd hA
 ·rw[hS,hv]
  simp[DataW.TrodVars]
end Go.Proofs.YtogckmommodmhaaGreatDoor
namespace Go.Proofs.YtogckmommodmhaaGreatDoor
open Go.RowKit
set_option linter.all false
set_option linter.unusedSimpArgs false
set_option maxRecDepth 100000
section
variable {P:Program} {c:Cx} {g:Nat→GM} {s:St} {a:Act} {w:World}
def St.named (s:St) (i es:Nat):St:=⟨(i,.sl es s.n 0 0 0)::s.t,(s.n,.cells [])::s.h,s.n + 1⟩
theorem R.named {i es:Nat} (hR:R c g s.fs a w) (hi:look s.t i=.nils) (hf:s.fs.H s.n=.free):R c (fun b=>if b=s.n then .ph else g b) (s.named i es).fs a w:=by
 have hun:g s.n=.un:=by
  have:=hR.h s.n
  rw[hf]at this
  generalize g s.n=m at this
  cases this;rfl
 have hH:∀ b,b≠s.n→(s.named i es).fs.H b=s.fs.H b:=fun b hb=>by
  show Qb ((s.n,_)::s.h) (s.n + 1) b=Qb s.h s.n b
  rw[Qc,if_neg (fun e=>hb e.symm),Kn _ _ _ hb]
 have hHn:(s.named i es).fs.H s.n=.cells []:=by
  show Qb ((s.n,_)::s.h) (s.n + 1) s.n=_
  rw[Qc,if_pos rfl]
 have hne:∀ {b k},(if b=s.n then GM.ph else g b)=.re k→b≠s.n∧g b=.re k:=fun {b k} h=>by
  by_cases hb:b=s.n
  ·rw[if_pos hb]at h;cases h
  ·rw[if_neg hb]at h;exact ⟨hb,h⟩
 have hg:∀ b,g b≠.un→(if b=s.n then GM.ph else g b)=g b:=fun b hb=>by
  rw[if_neg];rintro rfl;exact hb hun
 have hW:∀ k,Qn c (fun b=>if b=s.n then .ph else g b) (s.named i es).fs k→Qn c g s.fs k:=by
  rintro k (h|⟨b,h1,h2⟩)
  ·exact .inl h
  ·obtain ⟨hb,h3⟩:=hne h2
   rw[hH b hb]at h1
   exact .inr ⟨b,h1,h3⟩
 have mono:∀ {v u},VR g (Qn c g s.fs) w v u→VR (fun b=>if b=s.n then .ph else g b) (Qn c (fun b=>if b=s.n then .ph else g b) (s.named i es).fs) w v u:=fun h=>h.mono (Fr.refl _ _) (fun k _=>hW k) hg
 refine ⟨hR.size,hR.def_,fun j=>?_,fun j=>(hR.gl j).mono (Fr.refl _ _) (fun k _=>hW k) (fun _ _=>rfl),fun b=>?_,fun b b' k h1 h2 e1 e2=>?_,fun b k h1 e1=>?_,hR.fr,hR.xs,fun p hp=>?_⟩
 ·show VR _ _ w (look ((i,_)::s.t) j) _
  rw[Zt]
  split
  ·rename_i hij
   subst hij
   have:=hR.t i
   have e:s.fs.T i=.nils:=hi
   rw[e]at this
   generalize a.tmps.getD i undef=u at this ⊢
   cases this
   exact .slp (if_pos rfl) rfl
  ·exact mono (hR.t j)
 ·by_cases hb:b=s.n
  ·subst hb
   show BR _ _ w (if s.n=s.n then _ else _) _
   rw[if_pos rfl,hHn];exact .ph
  ·show BR _ _ w (if b=s.n then _ else _) _
   rw[if_neg hb,hH b hb]
   exact (hR.h b).mono (Fr.refl _ _) (fun k _=>hW k) hg (fun _ _ _=>rfl)
 ·obtain ⟨b1,g1⟩:=hne e1
  obtain ⟨b2,g2⟩:=hne e2
  rw[hH b b1]at h1
  rw[hH b' b2]at h2
  exact hR.inj b b' k h1 h2 g1 g2
 ·obtain ⟨b1,g1⟩:=hne e1
  rw[hH b b1]at h1
  exact hR.old b k h1 g1
 ·obtain ⟨q1,q2⟩:=hR.pin p hp
  exact ⟨by show (if p.1=s.n then GM.ph else g p.1)=_;rw[hg _ (by rw[q1];exact q2)];exact q1,q2⟩
theorem Qdv {b:TC} {Q:EX→St→Prop} (i es:Nat) (hi:look s.t i=.nils) (hf:s.fs.H s.n=.free) (h:Qc3 P c b Q (s.named i es)):Qc3 P c b Q s :=
 fun code he g a w hR=>h code he _ a w (hR.named hi hf)
end
section
variable {P:Program} {w:World}
def Qn4 (P:Program) (c:Cx) (k:PK) (xs:List TV) (vs:List AV) (r:AV):Prop :=
 ∀ (o:Oper) (ys:List Operand),Xy P o=some (k,ys)→ys.map tvO=xs→∀ (g:Nat→GM) (W:Nat→Prop) (a:Act) (w:World),(∀ i,W i→i < w.heap.size)→(∀ i,VR (fun _=>.un) W w (c.gl i) (.pointer (some ⟨i,0,none⟩)))→VRs g W w vs (ys.map a.eval) →
  ∀ (K:Act→World→Prop) (Q:Exit→Act→World→Prop),(∀ v w',Fr w w' (fun _=>False)→VR g W w' r v→K (a.put o.dst v) w')→o.wp P a w K Q
theorem Xct {c:Cx} {s:St} {d:Option Nat} {k:PK} {xs:List TV} {gd:Option (Nat × Bool)} {args:List AV} {r:AV} (hok:Wt c.gl s.fs xs gd) (hargs:(evs c.gl s.fs xs).map Qj=args)
  (hq:ob (gB s.fs gd) (Qn4 P c k xs args r)):Kj P c (.pd d k xs gd) s.fs (Yk d xs gd) (s.putO d (cw (gB s.fs gd) r)).fs:=by
 intro ops io he
 obtain ⟨hgd,hdst,hd,ys,hel,rfl⟩:=Zd he
 have hput:(s.putO d (cw (gB s.fs gd) r)).fs=match d with|some d=>s.fs.put d (cw (gB s.fs gd) r)|none=>s.fs:=by
  cases d with
  | none=>rfl
  | some d=>exact St.fs_put _ _ _
 rw[hput]
 refine ⟨fun i hi=>?_,fun b _=>by cases d<;>rfl,?_⟩
 ·cases d with
  | none=>rfl
  | some d=>show (s.fs.put d _).T i=_;rw[FS.T_put,if_neg (fun e=>hi (by simp[Yk,e]))]
 ·intro s2 hT hH g a w hR K Q' hK
  have hevs:evs c.gl s2 (ys.map tvO)=evs c.gl s.fs (ys.map tvO):=Ye fun i hi=>hT i (by simp[Yk,hi])
  have hg:∀ t b,gd=some (t,b)→s2.T t=s.fs.T t:=fun t b e=>hT t (by simp[Yk,e,gdT])
  have hgB:gB s2 gd=gB s.fs gd:=by
   cases gd with
   | none=>rfl
   | some p=>obtain ⟨t,b⟩:=p;simp only[gB,hg t b rfl]
  have hgO:gOk s2 gd:=by
   have:=hok.1
   cases gd with
   | none=>exact this
   | some p=>obtain ⟨t,b⟩:=p;simpa only[gOk,hg t b rfl] using this
  have hK':∀ v w',Fr w w' (fun _=>False)→VR g (Qn c g s2) w' (cw (gB s.fs gd) r) v→K (a.put io.dst v) w':=fun v w' hf hv=>by
   rw[hdst]
   have hR':=hR.grow hf
   cases d with
   | none =>
    refine hK g _ w' ?_
    have:ovr s2 s.fs (Yk none (ys.map tvO) gd)=s2:=by unfold ovr Yk;simp
    simp only[this];exact hR'
   | some d =>
    refine hK g _ w' ?_
    show R c g (ovr s2 (s.fs.put d _) ⟨gdT gd++Xj (ys.map tvO),[],[d],[]⟩) _ _
    rw[Qdo]
    exact hR'.put (by simpa using hd) hv
  unfold Qan
  rw[Qb9 hgd hR hgO,hgB]
  have run:(∀ b,gB s.fs gd=some b→b=true)→io.wp P a w K Q':=by
   intro hb
   have hc1:Qt none (evs c.gl s2 (ys.map tvO)):=by
    rw[hevs]
    have:=hok.2
    cases hgb:gB s.fs gd with
    | none=>rw[hgb]at this;exact this
    | some b=>rw[hgb]at this;exact Qaw (hb b hgb) this
   have hq':Qn4 P c k (ys.map tvO) args r:=by
    cases hgb:gB s.fs gd with
    | none=>rw[hgb]at hq;exact hq
    | some b=>rw[hgb]at hq;exact hq (hb b hgb)
   have hv:=Yh (hR.evs ys) hc1
   rw[hevs,hargs]at hv
   have hX:∀ k,Qn c g s2 k→k < w.heap.size:=by
    rintro k (h|⟨b',hl,hg'⟩)
    ·have:=(hR.xs k h).1;have:=hR.fr.size;omega
    ·exact BR.lt (hg' ▸ hR.h b') hl
   refine hq' io ys hel rfl g _ a w hX (fun i=>(hR.gl i)) hv K Q' fun v w' hf hv2=>?_
   refine hK' v w' hf ?_
   cases hgb:gB s.fs gd with
   | none=>exact hv2
   | some b=>exact .cnd (fun _=>hv2) fun h=>by rw[hb b hgb]at h;cases h
  cases hgb:gB s.fs gd with
  | none=>simp only[Option.getD_none,if_true];exact run fun b h=>by rw[hgb]at h;cases h
  | some b =>
   cases b with
   | true=>simp only[Option.getD_some,if_true];exact run fun b h=>by rw[hgb]at h;cases h;rfl
   | false =>
    simp only[Option.getD_some,Bool.false_eq_true,if_false]
    refine hK' undef w (Fr.refl _ _) ?_
    rw[hgb]
    exact .cnd (fun h=>by cases h) fun _=>rfl
theorem Qds {c:Cx} {r0:List TOp} {K:St→Prop} {s:St} {d:Option Nat} {k:PK} {xs:List TV} {gd:Option (Nat × Bool)} {args:List AV} {r:AV} (hargs:(evs c.gl s.fs xs).map Qj=args) (hq:Qn4 P c k xs args r)
  (hok:Wt c.gl s.fs xs gd∧XP P c r0 K (s.putO d (cw (gB s.fs gd) r))):Yc P c (.pd d k xs gd) r0 K s:=.inl ⟨_,_,Xct hok.1 hargs (Qhk hq),hok.2⟩
def Qgw:AV→Option Bool
 | .isl _ (_::_)=>some false
 | .lit (.slice a _ _)=>some a.isNone
 | _=>none
theorem Xs3 {g:Nat→GM} {W:Nat→Prop} {x:AV} {v:Value} {b:Bool} (hx:VR g W w x v) (h:Qgw x=some b):∃ a n cap,v=.slice a n cap∧a.isNone=b:=by
 unfold Qgw at h
 split at h
 ·obtain ⟨a,cap,us,rfl,_,_,h3,_⟩:=Qav hx
  obtain ⟨k,o,rfl,_⟩:=h3 0 Zsi
  cases h
  exact ⟨_,_,_,rfl,rfl⟩
 ·cases h;cases hx;exact ⟨_,_,_,rfl,rfl⟩
 ·cases h
theorem Qwh (w:World) (t e:TypeId) (a:Option Addr) (l c:Nat) (h:P.underlying t=some (.slice e)):(binOp .eql t (.slice a l c) (.slice none 0 0)).run P w=.ok (.bool a.isNone) w:=by
 simp only[binOp]
 simp[run_equal_slice_nil w t e a l c h]
theorem Xpd {y:Operand} (h:tvO y=.c .nils):y=.const (.slice none 0 0):=by
 cases y with
 | const v =>
  simp only[tvO,TV.c.injEq]at h
  cases v<;>simp only[ofV,ofS]at h<;>first|(cases h;done)|skip
  all_goals split at h
  all_goals first|(cases h;done)|rfl|(simp at h;obtain ⟨rfl,rfl,rfl⟩:=h;rfl)|simp_all
 | _=>simp[tvO]at h
theorem Xoz {c:Cx} {ne:Bool} {t e:TypeId} {x:TV} {v:AV} {b:Bool} (ht:P.underlying t=some (.slice e)) (hb:Qgw v=some b):Qn4 P c (.cA ne t) [x,.c .nils] [v,.nils] (.bool (ne != b)):=by
 intro o ys hel hys g W a w _ _ hv K Q hK
 obtain ⟨x',y',u,hop,rfl⟩:=Qyp hel
 simp only[List.map_cons,List.map_nil,List.cons.injEq,and_true]at hys
 have hy:=Xpd hys.2
 subst hy
 obtain ⟨hx,_,_⟩:=hv
 obtain ⟨ad,n,cap,hxv,rfl⟩:=Xs3 hx hb
 have ey:a.eval (.const (.slice none 0 0))=.slice none 0 0:=rfl
 have run:(execOp a.eval o).run P w=.ok (.value (.bool (ne != ad.isNone))) w:=by
  unfold execOp
  cases ne
  ·simp only[hop,hxv,ey,cond_false,Sem.run_bind];simp[eqGuard,Qwh w t e ad n cap ht]
  ·simp only[hop,hxv,ey,cond_true,Sem.run_bind];simp[eqGuard,run_neq_slice_nil w t e ad n cap ht]
 unfold Oper.wp
 rw[run]
 exact hK _ _ (Fr.refl _ _) (.bool _)
theorem Qhq {c:Cx} {es:Nat} {zs:List AV}:Qae P c (.bsl es 0 zs []) [] .nils:=by
 intro o ys hel g W a w _ _ hv K Q hK
 obtain ⟨t,e,i,z,parts,hop,hu,hi,hz,hzs,hpos,hz1,h24,h24',rfl,rfl,hps,rfl⟩:=Qvu hel
 have hp:parts=#[]:=by
  have:=congrArg List.length hps
  simp at this
  exact Array.eq_empty_of_size_eq_zero this.symm
 subst hp
 have run:(execOp a.eval o).run P w=.ok (.value (.slice (some ⟨w.heap.size,0,none⟩) 0 0)) (w.alloc (.cells #[] e)):=by
  unfold execOp
  simp only[hop,Sem.run_bind]
  simp[Instr.buildSlice,run_underlying hu,sizeOf,typeInfo,hi,Instr.fill,newRow]
  have:(Array.map (fun x:Nat=>(default:Value)) (Array.range 0))=#[]:=Array.eq_empty_of_size_eq_zero Zsi
  rw[this]
 unfold Oper.wp
 rw[run]
 exact hK _ _ (Fr.alloc _ _ _) (.nils _)
theorem GS.empty {gl:Nat→AV} {f:FuncId} {es:Nat} {cs:List AV} (h1:∀ cap,GS P gl f [.lit (.slice none 0 cap)] [] 0 .nils [] 0) (h2:∀ a cap,GS P gl f [.lit (.slice (some a) 0 cap)] [] 0 (.sl es 0 0 0 0) [(0,.cells [])] 1):GS P gl f [.isl 0 cs] [] 0 (.sl es 0 0 0 0) [(0,.cells [])] 1:=by
 refine ⟨(h1 0).1,fun w vs G X g hR hv=>?_⟩
 cases vs with
 | nil=>exact hv.elim
 | cons v vs =>
 cases vs with
 | cons _ _=>exact hv.2.elim
 | nil =>
 obtain ⟨hv,_⟩:=hv
 obtain ⟨a,cap,us,rfl,_⟩:=Qav hv
 cases a with
 | some a=>exact (h2 a cap).2 w [.slice (some a) 0 cap] G X g hR ⟨.lit _,trivial⟩
 | none =>
  refine ((h1 cap).2 w [.slice none 0 cap] G X g hR ⟨.lit _,trivial⟩).mono ?_
  rintro e w' ⟨v,g',rfl,hR',_,hv'⟩
  have hR1:R ⟨1,w,G,X,gl,[]⟩ g' (⟨[(0,.nils)],[],0⟩:St).fs ⟨#[v],[]⟩ w':=by
   refine ⟨rfl,rfl,fun i=>?_,hR'.gl,hR'.h,hR'.inj,hR'.old,hR'.fr,hR'.xs,fun p hp=>by cases hp⟩
   show VR g' _ w' (look [(0,.nils)] i) _
   rw[Zt]
   split
   ·rename_i hi;subst hi;exact hv'
   ·exact .any _
  have hR2:=hR1.named (i:=0) (es:=es) rfl rfl
  exact ⟨v,_,rfl,⟨rfl,rfl,fun i=>.any _,hR2.gl,hR2.h,hR2.inj,hR2.old,hR2.fr,hR2.xs,fun p hp=>by cases hp⟩,fun b hb=>by omega,hR2.t 0⟩
end
end Go.Proofs.YtogckmommodmhaaGreatDoor
