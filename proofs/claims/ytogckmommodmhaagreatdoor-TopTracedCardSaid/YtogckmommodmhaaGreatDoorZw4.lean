import Derived.Test.YtogckmommodmhaaGreatDoorZw3
import Derived.DeepKeys
import Derived.Laws.StructEq
import Derived.Laws.AppendOwn
import Derived.Great.BuildSlice
import Derived.Laws.IdiomStrings
import Derived.KernelRfl
namespace Go.Proofs.YtogckmommodmhaaGreatDoor
open Go.RowKit
set_option linter.all false
set_option linter.unusedSimpArgs false
set_option maxRecDepth 100000
inductive TC where
 | skip
 | I7 (l:List bG)
 | w3 (l:List bG) (anc:List Nat)
 | seq (a b:TC)
 | cond (x:TV) (a b:TC)
 | block (i:Nat) (b:TC)
 | loop (b:TC)
 | exit (i:Nat)
 | ret
def Jc (P:Program) (N:Nat):Code→Option TC
 | .skip=>some .skip
 | .region _ ops false=>(rY P N ops ops.toList).map .I7
 | .region _ ops true=>if I0 ops=true then (rY P N ops ops.toList).map fun l=>.w3 l (zG ops.toList []) else none
 | .seq a b=>match Jc P N a,Jc P N b with
  | some x,some y=>some (.seq x y)
  | _,_=>none
 | .cond c a b=>match Jc P N a,Jc P N b with
  | some x,some y=>some (.cond (aS c) x y)
  | _,_=>none
 | .block i b=>(Jc P N b).map (.block i)
 | .loop b=>(Jc P N b).map .loop
 | .exit i=>some (.exit i)
 | .ret=>some .ret
 | _=>none
inductive EX where
 | normal
 | exit (i:Nat)
 | ret
def Fz (c:Cx) (Q:EX→St→Prop):Exit→Act→World→Prop
 | .normal,a,w=>∃ g s,R c g s.fs a w∧Q .normal s
 | .exit i,a,w=>∃ g s,R c g s.fs a w∧Q (.exit i) s
 | .ret,a,w=>∃ g s,R c g s.fs a w∧Q .ret s
 | _,_,_=>False
def AW (P:Program) (c:Cx) (code:Code) (Q:EX→St→Prop) (s:St):Prop:=∀ g a w,R c g s.fs a w→code.wp P (Fz c Q) a w
def P4 (k:(EX→St→Prop)→St→Prop) (Q:EX→St→Prop):EX→St→Prop
 | .normal,s=>k Q s
 | e,s=>Q e s
def zI (i:Nat) (Q:EX→St→Prop):EX→St→Prop
 | .exit j,s=>if j=i then Q .normal s else Q (.exit j) s
 | e,s=>Q e s
def qg (P:Program) (c:Cx) (b:TC) (Q:EX→St→Prop) (s:St):Prop:=∀ code,Jc P c.N code=some b→AW P c (.loop code) Q s
def xw (P:Program) (c:Cx):TC→(EX→St→Prop)→St→Prop
 | .skip,Q,s=>Q .normal s
 | .I7 l,Q,s=>XP P c l (Q .normal) s
 | .w3 l anc,Q,s=>XD P c anc l [] (Q .normal) s
 | .seq a b,Q,s=>xw P c a (P4 (xw P c b) Q) s
 | .cond x a b,Q,s=>ff (aZ c.gl s.fs x)∧(eN (aZ c.gl s.fs x)=true→xw P c a Q s)∧(eN (aZ c.gl s.fs x)=false→xw P c b Q s)
 | .block i b,Q,s=>xw P c b (zI i Q) s
 | .loop b,Q,s=>qg P c b Q s
 | .exit i,Q,s=>Q (.exit i) s
 | .ret,Q,s=>Q .ret s
def FA (P:Program) (c:Cx) (b:TC) (Q:EX→St→Prop):EX→St→Prop:=P4 (xw P c b) Q
section
variable {P:Program} {c:Cx} {Q:EX→St→Prop} {s:St}
theorem Ybp:xw P c .skip Q s=Q .normal s:=rfl
theorem Ydc (l:List bG):xw P c (.I7 l) Q s=XP P c l (Q .normal) s:=rfl
theorem Xxg (l:List bG) (anc:List Nat):xw P c (.w3 l anc) Q s=XD P c anc l [] (Q .normal) s:=rfl
theorem Ydr (a b:TC):xw P c (.seq a b) Q s=xw P c a (FA P c b Q) s:=rfl
theorem Ybb (x:TV) (a b:TC):xw P c (.cond x a b) Q s=(ff (aZ c.gl s.fs x)∧(eN (aZ c.gl s.fs x)=true→xw P c a Q s)∧(eN (aZ c.gl s.fs x)=false→xw P c b Q s)):=rfl
theorem Xth (i:Nat) (b:TC):xw P c (.block i b) Q s=xw P c b (zI i Q) s:=rfl
theorem Yb8 (b:TC):xw P c (.loop b) Q s=qg P c b Q s:=rfl
theorem Ybl (i:Nat):xw P c (.exit i) Q s=Q (.exit i) s:=rfl
theorem Ydg:xw P c .ret Q s=Q .ret s:=rfl
theorem Qzj (b:TC):FA P c b Q .normal s=xw P c b Q s:=rfl
theorem Xl8 (b:TC) (i:Nat):FA P c b Q (.exit i) s=Q (.exit i) s:=rfl
theorem Xrx (b:TC):FA P c b Q .ret s=Q .ret s:=rfl
end
section
variable {P:Program} {c:Cx}
theorem Qzv {ops:Array Oper} {id:Nat} {l:List bG} {Q:EX→St→Prop} {s:St} (hm:P.follows .mixedOrders=true) (hb:I0 ops=true) (he:rY P c.N ops ops.toList=some l)
  (h:XD P c (zG ops.toList []) l [] (Q .normal) s):AW P c (.region id ops true) Q s:=by
 intro g a w hR
 obtain ⟨S,F,sn,h1,h2,h3,h4,h5⟩:=PW ops.toList l [] s he h
 have hn:ops.toList.length=ops.size:=by simp
 rw[hn]at h3 h5
 simp only[List.reverse_nil,List.nil_append]at h5
 have hc:Ch ops.size S F (fun j=>(List.range ops.size).filter fun i=>((zG ops.toList []).getD j 0).testBit i):=by
  refine ⟨fun j hj=>?_,fun j hj=>?_,fun i j iM hj aW=>?_⟩
  ·exact (h2 j ops[j] (by simp[hj])).bh
  ·exact (h2 j ops[j] (by simp[hj])).cZ
  ·have:=PV _ [] h5 j (by simpa using hj) i (by simp;omega) (by simpa using iM) (by simpa using Xsi aW)
   simp only[List.mem_filter,List.mem_range]
   exact ⟨by omega,by simpa using this⟩
 refine wp_region_any hm ?_
 have I8:HeadInv .any ops ops.size (Array.replicate ops.size false) :=
  ⟨by simp,fun j oj _ hl=>(by rw[getD_replicate_false]at hl;cases hl),fun t ht ml=>by omega⟩
 have bf:R c g s.fs a { w with drawn:=w.drawn + 1 }:=hR.grow (Fr.drew w _)
 refine Xlf (S:=S) (F:=F) rfl hb hc (fun L' fZ j hj=>?_) (fun j o ho=>h2 j o (by simpa using ho)) (fun g' a' w' I9=>⟨g',sn,by rw[h3];exact I9,h4⟩) _ _ g a _ I8 ?_ ?_
 ·intro i hi
  exact PT (ops:=ops) (L:=fun k=>L' k=true) fZ ops.toList [] (fun i=>by simp) (fun j hj=>by simp at hj) j hj i (List.mem_filter.1 hi).2
 ·rw[P1 _ fun j _=>getD_replicate_false _ _,h1];exact bf
 ·unfold cE
  rw[List.filter_eq_self.2 (fun j hj=>by
   have cV:=List.mem_range.1 hj
   rw[getD_in (by simp;omega) (getD_replicate_false _ _)];rfl)]
  simp
end
section
variable {P:Program} {c:Cx}
theorem vn (hm:P.follows .mixedOrders=true):∀ (code:Code) (t:TC) (Q:EX→St→Prop) (s:St),Jc P c.N code=some t→xw P c t Q s→AW P c code Q s:=by
 intro code
 induction code with
 | skip =>
  intro t Q s he h g a w hR
  simp[Jc]at he;subst he
  exact wp_skip ⟨g,s,hR,h⟩
 | region id ops d =>
  intro t Q s he h
  cases d with
  | false =>
   simp only[Jc,Option.map_eq_some_iff]at he
   obtain ⟨l,hl,rfl⟩:=he
   intro g a w hR
   exact wp_region_list (IZ (K:=Q .normal) (fun s g a w hs hR=>⟨g,s,hR,hs⟩) ops.toList l s hl h g a w hR)
  | true =>
   simp only[Jc]at he
   split at he
   ·rename_i hb
    simp only[Option.map_eq_some_iff]at he
    obtain ⟨l,hl,rfl⟩:=he
    exact Qzv hm hb hl h
   ·cases he
 | seq x y ihx ihy =>
  intro t Q s he h g a w hR
  simp only[Jc]at he
  split at he
  ·rename_i tx ty hx hy
   simp at he;subst he
   refine wp_seq (wp_mono (ihx tx _ s hx h g a w hR) fun e a' w' hq=>?_)
   cases e with
   | normal =>
    obtain ⟨g',s',bf,cD⟩:=hq
    exact ihy ty Q s' hy cD g' a' w' bf
   | exit i=>exact hq
   | ret=>exact hq
   | goto l=>exact hq
   | panic ch=>exact hq
   | outgrown=>exact hq
  ·cases he
 | cond x a b P5 P6 =>
  intro t Q s he h g act w hR
  simp only[Jc]at he
  split at he
  ·rename_i ta tb ha hb
   simp at he;subst he
   obtain ⟨h1,h2,h3⟩:=h
   have hv:=(hR.ev x).ff h1
   refine wp_cond_split hv (fun ht=>?_) fun hf=>?_
   ·exact P5 ta Q s ha (h2 ht) g act w hR
   ·exact P6 tb Q s hb (h3 hf) g act w hR
  ·cases he
 | block i b ih =>
  intro t Q s he h g a w hR
  simp only[Jc,Option.map_eq_some_iff]at he
  obtain ⟨tb,hb,rfl⟩:=he
  refine wp_block (wp_mono (ih tb _ s hb h g a w hR) fun e a' w' hq=>?_)
  cases e with
  | exit j =>
   obtain ⟨g',s',bf,cD⟩:=hq
   simp only[zI]at cD
   simp only[Exit.inBlock]
   split
   ·rename_i e;rw[if_pos e]at cD;exact ⟨g',s',bf,cD⟩
   ·rename_i e;rw[if_neg e]at cD;exact ⟨g',s',bf,cD⟩
  | normal=>exact hq
  | ret=>exact hq
  | goto l=>exact hq
  | panic ch=>exact hq
  | outgrown=>exact hq
 | loop b ih =>
  intro t Q s he h
  simp only[Jc,Option.map_eq_some_iff]at he
  obtain ⟨tb,hb,rfl⟩:=he
  exact h b hb
 | exit i =>
  intro t Q s he h g a w hR
  simp[Jc]at he;subst he
  exact wp_exit ⟨g,s,hR,h⟩
 | ret =>
  intro t Q s he h g a w hR
  simp[Jc]at he;subst he
  exact wp_ret ⟨g,s,hR,h⟩
 | rangeFunc f ps a b P5 P6=>intro t Q s he;simp[Jc]at he
 | scope b ih=>intro t Q s he;simp[Jc]at he
 | label l=>intro t Q s he;simp[Jc]at he
 | goto l=>intro t Q s he;simp[Jc]at he
 | refuse why=>intro t Q s he;simp[Jc]at he
end
mutual
def Qf (n:Nat):AV→Prop
 | .dx _ v=>Qf n v
 | .agg cs=>ah n cs
 | .aU cs=>ah n cs
 | .xp cs _=>ah n cs
 | .isl _ cs=>ah n cs
 | .cl _ cs=>ah n cs
 | .ptr b _=>b < n
 | .sl _ b _ _ _=>b < n
 | .mp b=>b < n
 | _=>True
def ah (n:Nat):List AV→Prop
 | []=>True
 | x::xs=>Qf n x∧ah n xs
end
mutual
def aD (ρ:Nat→Nat):AV→AV
 | .dx b v=>.dx b (aD ρ v)
 | .agg cs=>.agg (ay ρ cs)
 | .aU cs=>.aU (ay ρ cs)
 | .xp cs o=>.xp (ay ρ cs) o
 | .isl n cs=>.isl n (ay ρ cs)
 | .cl f cs=>.cl f (ay ρ cs)
 | .ptr b o=>.ptr (ρ b) o
 | .sl es b o n c=>.sl es (ρ b) o n c
 | .mp b=>.mp (ρ b)
 | .any=>.any
 | .int k n=>.int k n
 | .bool b=>.bool b
 | .str l=>.str l
 | .nils=>.nils
 | .lit v=>.lit v
def ay (ρ:Nat→Nat):List AV→List AV
 | []=>[]
 | x::xs=>aD ρ x::ay ρ xs
end
theorem Xi {n:Nat}:∀ {cs:List AV},ah n cs ↔ ∀ x ∈ cs,Qf n x
 | []=>by simp[ah]
 | x::xs=>by simp[ah,Xi (cs:=xs)]
theorem Yk (ρ:Nat→Nat):∀ cs:List AV,ay ρ cs=cs.map (aD ρ)
 | []=>by simp[ay]
 | x::xs=>by simp[ay,Yk ρ xs]
theorem Yg (ρ:Nat→Nat) (cs:List AV):(ay ρ cs).length=cs.length:=by rw[Yk];simp
theorem Ko (ρ:Nat→Nat) (cs:List AV) (j:Nat):(ay ρ cs).getD j .any=aD ρ (cs.getD j .any):=by
 rw[Yk]
 simp only[List.getD,List.getElem?_map]
 cases cs[j]?<;>simp[aD]
theorem Zs {n:Nat} {cs:List AV} (h:ah n cs) (j:Nat):Qf n (cs.getD j .any):=by
 by_cases hj:j < cs.length
 ·rw[BG hj];exact Xi.1 h _ (List.getElem_mem _)
 ·have:cs.getD j .any=.any:=by simp[List.getD,Nat.le_of_not_lt hj]
  rw[this];simp[Qf]
section
variable {P:Program} {W:Nat→Prop} {w:World} {g g':Nat→GM} {n:Nat} {ρ:Nat→Nat}
theorem VR.aD (hg:∀ b,b < n→g (ρ b)=g' b) {v:AV} {u:Value} (h:VR g' W w v u):Qf n v→VR g W w (aD ρ v) u:=by
 induction h with
 | any v=>intro _;simp only[Proofs.YtogckmommodmhaaGreatDoor.aD];exact .any _
 | dx h h0 ih=>intro hn;simp only[Proofs.YtogckmommodmhaaGreatDoor.aD];simp only[Qf]at hn;exact .dx (fun hb=>ih hb hn) h0
 | int k n=>intro _;simp only[Proofs.YtogckmommodmhaaGreatDoor.aD];exact .int _ _
 | bool b=>intro _;simp only[Proofs.YtogckmommodmhaaGreatDoor.aD];exact .bool _
 | str l=>intro _;simp only[Proofs.YtogckmommodmhaaGreatDoor.aD];exact .str _
 | agg hs h1 h ih =>
  intro hn;simp only[Proofs.YtogckmommodmhaaGreatDoor.aD];simp only[Qf]at hn
  exact .agg (by rw[Yg];exact hs) (fun j hj=>h1 j (by rwa [Yg]at hj)) fun j hj=>by rw[Ko];exact ih j (by rwa [Yg]at hj) (Zs hn j)
 | aU hs h ih =>
  intro hn;simp only[Proofs.YtogckmommodmhaaGreatDoor.aD];simp only[Qf]at hn
  exact .aU (by rw[Yg];exact hs) fun j hj=>by rw[Ko];exact ih j (by rwa [Yg]at hj) (Zs hn j)
 | ptr e=>intro hn;simp only[Proofs.YtogckmommodmhaaGreatDoor.aD];simp only[Qf]at hn;exact .ptr (by rw[hg _ hn];exact e)
 | xp hc h ih =>
  intro hn;simp only[Proofs.YtogckmommodmhaaGreatDoor.aD];simp only[Qf]at hn
  exact .xp (fun j hj=>hc j (by rwa [Yg]at hj)) fun j hj=>by rw[Ko];exact ih j (by rwa [Yg]at hj) (Zs hn j)
 | sl e a b c d f=>intro hn;simp only[Proofs.YtogckmommodmhaaGreatDoor.aD];simp only[Qf]at hn;exact .sl (by rw[hg _ hn];exact e) a b c d f
 | kq e hc=>intro hn;simp only[Proofs.YtogckmommodmhaaGreatDoor.aD];simp only[Qf]at hn;exact .kq (by rw[hg _ hn];exact e) hc
 | isl a b hc h ih =>
  intro hn;simp only[Proofs.YtogckmommodmhaaGreatDoor.aD];simp only[Qf]at hn
  exact .isl a b (fun j hj=>hc j (by rwa [Yg]at hj)) fun j hj=>by rw[Ko];exact ih j (by rwa [Yg]at hj) (Zs hn j)
 | nils a=>intro _;simp only[Proofs.YtogckmommodmhaaGreatDoor.aD];exact .nils _
 | cl hs h ih =>
  intro hn;simp only[Proofs.YtogckmommodmhaaGreatDoor.aD];simp only[Qf]at hn
  exact .cl (by rw[Yg];exact hs) fun j hj=>by rw[Ko];exact ih j (by rwa [Yg]at hj) (Zs hn j)
 | mp e=>intro hn;simp only[Proofs.YtogckmommodmhaaGreatDoor.aD];simp only[Qf]at hn;exact .mp (by rw[hg _ hn];exact e)
 | lit v=>intro _;simp only[Proofs.YtogckmommodmhaaGreatDoor.aD];exact .lit _
theorem VR.iN (hg:∀ b,b < n→g (ρ b)≠.un→g (ρ b)=g' b) {x:AV} {u:Value} (h:VR g W w x u):∀ v,x=Proofs.YtogckmommodmhaaGreatDoor.aD ρ v→Qf n v→VR g' W w v u:=by
 induction h with
 | any=>intro v e _;cases v<;>simp[Proofs.YtogckmommodmhaaGreatDoor.aD]at e;exact .any _
 | dx h h0 ih=>intro v e hn;cases v<;>simp[Proofs.YtogckmommodmhaaGreatDoor.aD]at e;obtain ⟨rfl,rfl⟩:=e;exact .dx (fun hb=>ih hb _ rfl (by simpa [Qf] using hn)) h0
 | int k n=>intro v e _;cases v<;>simp[Proofs.YtogckmommodmhaaGreatDoor.aD]at e;obtain ⟨rfl,rfl⟩:=e;exact .int _ _
 | bool b=>intro v e _;cases v<;>simp[Proofs.YtogckmommodmhaaGreatDoor.aD]at e;subst e;exact .bool _
 | str l=>intro v e _;cases v<;>simp[Proofs.YtogckmommodmhaaGreatDoor.aD]at e;subst e;exact .str _
 | agg hs h1 h ih =>
  intro v e hn;cases v<;>simp[Proofs.YtogckmommodmhaaGreatDoor.aD]at e;subst e;simp only[Qf]at hn
  rw[Yg]at hs h1 ih
  exact .agg hs h1 fun j hj=>ih j hj _ (Ko _ _ _) (Zs hn j)
 | aU hs h ih =>
  intro v e hn;cases v<;>simp[Proofs.YtogckmommodmhaaGreatDoor.aD]at e;subst e;simp only[Qf]at hn
  rw[Yg]at hs ih
  exact .aU hs fun j hj=>ih j hj _ (Ko _ _ _) (Zs hn j)
 | ptr e0=>intro v e hn;cases v<;>simp[Proofs.YtogckmommodmhaaGreatDoor.aD]at e;obtain ⟨rfl,rfl⟩:=e;simp only[Qf]at hn;exact .ptr (by rw[← hg _ hn (by rw[e0];intro x;cases x)];exact e0)
 | xp hc h ih =>
  intro v e hn;cases v<;>simp[Proofs.YtogckmommodmhaaGreatDoor.aD]at e;obtain ⟨rfl,rfl⟩:=e;simp only[Qf]at hn
  rw[Yg]at hc ih
  exact .xp hc fun j hj=>ih j hj _ (Ko _ _ _) (Zs hn j)
 | sl e0 a b c d f=>intro v e hn;cases v<;>simp[Proofs.YtogckmommodmhaaGreatDoor.aD]at e;obtain ⟨rfl,rfl,rfl,rfl,rfl⟩:=e;simp only[Qf]at hn;exact .sl (by rw[← hg _ hn (by rw[e0];intro x;cases x)];exact e0) a b c d f
 | kq e0 hc=>intro v e hn;cases v<;>simp[Proofs.YtogckmommodmhaaGreatDoor.aD]at e;obtain ⟨rfl,rfl,rfl,rfl,rfl⟩:=e;simp only[Qf]at hn;exact .kq (by rw[← hg _ hn (by rw[e0];intro x;cases x)];exact e0) hc
 | isl a b hc h ih =>
  intro v e hn;cases v<;>simp[Proofs.YtogckmommodmhaaGreatDoor.aD]at e;obtain ⟨rfl,rfl⟩:=e;simp only[Qf]at hn
  rw[Yg]at hc ih
  exact .isl a b hc fun j hj=>ih j hj _ (Ko _ _ _) (Zs hn j)
 | nils a=>intro v e _;cases v<;>simp[Proofs.YtogckmommodmhaaGreatDoor.aD]at e;exact .nils _
 | cl hs h ih =>
  intro v e hn;cases v<;>simp[Proofs.YtogckmommodmhaaGreatDoor.aD]at e;obtain ⟨rfl,rfl⟩:=e;simp only[Qf]at hn
  rw[Yg]at hs ih
  exact .cl hs fun j hj=>ih j hj _ (Ko _ _ _) (Zs hn j)
 | mp e0=>intro v e hn;cases v<;>simp[Proofs.YtogckmommodmhaaGreatDoor.aD]at e;subst e;simp only[Qf]at hn;exact .mp (by rw[← hg _ hn (by rw[e0];intro x;cases x)];exact e0)
 | lit=>intro v e _;cases v<;>simp[Proofs.YtogckmommodmhaaGreatDoor.aD]at e;subst e;exact .lit _
theorem py (ρ:Nat→Nat) (h:∀ b,ρ b=b):∀ v:AV,Proofs.YtogckmommodmhaaGreatDoor.aD ρ v=v:=by
 have:ρ=id:=funext h
 subst this
 intro v
 exact AV.rec (motive_1:=fun v=>Proofs.YtogckmommodmhaaGreatDoor.aD id v=v) (motive_2:=fun l=>ay id l=l) (by simp[Proofs.YtogckmommodmhaaGreatDoor.aD]) (fun b v h=>by simp[Proofs.YtogckmommodmhaaGreatDoor.aD,h]) (fun _ _=>by simp[Proofs.YtogckmommodmhaaGreatDoor.aD]) (fun _=>by simp[Proofs.YtogckmommodmhaaGreatDoor.aD]) (fun _=>by simp[Proofs.YtogckmommodmhaaGreatDoor.aD])
  (fun cs h=>by simp[Proofs.YtogckmommodmhaaGreatDoor.aD,h]) (fun cs h=>by simp[Proofs.YtogckmommodmhaaGreatDoor.aD,h]) (fun _ _=>by simp[Proofs.YtogckmommodmhaaGreatDoor.aD]) (fun cs _ h=>by simp[Proofs.YtogckmommodmhaaGreatDoor.aD,h]) (fun _ _ _ _ _=>by simp[Proofs.YtogckmommodmhaaGreatDoor.aD]) (fun _ cs h=>by simp[Proofs.YtogckmommodmhaaGreatDoor.aD,h]) (by simp[Proofs.YtogckmommodmhaaGreatDoor.aD])
  (fun _ cs h=>by simp[Proofs.YtogckmommodmhaaGreatDoor.aD,h]) (fun _=>by simp[Proofs.YtogckmommodmhaaGreatDoor.aD]) (fun _=>by simp[Proofs.YtogckmommodmhaaGreatDoor.aD]) (by simp[ay]) (fun x xs h1 h2=>by simp[ay,h1,h2]) v
theorem VR.nm {v:AV} {u:Value} (h:VR g W w v u) (hn:Qf n v) (hg:∀ b,b < n→g b=g' b):VR g' W w v u :=
 h.iN (ρ:=id) (n:=n) (g':=g') (fun b hb _=>hg b hb) v (py _ (fun _=>rfl) v).symm hn
end
def rl:List (Nat × Nat)→Nat→Nat
 | [],b=>b
 | (i,j)::r,b=>bif i == b then j else rl r b
def Qx (ρ:Nat→Nat):Bk→Bk
 | .cells cs=>.cells (ay ρ cs)
 | .aC kvs dn=>.aC (kvs.map fun p=>(aD ρ p.1,aD ρ p.2)) dn
 | .bn kvs bs ck=>.bn (kvs.map fun p=>(aD ρ p.1,aD ρ p.2)) bs ck
 | .iter b ck seen=>.iter (ρ b) ck seen
 | .dd ls=>.dd ls
 | x=>x
def bP (n:Nat):Bk→Prop
 | .cells cs=>ah n cs
 | .aC kvs _=>∀ p ∈ kvs,Qf n p.1∧Qf n p.2
 | .bn kvs _ _=>∀ p ∈ kvs,Qf n p.1∧Qf n p.2
 | .iter b _ _=>b < n
 | .dd ls=>∀ l ∈ ls,ah 0 l
 | _=>False
def Qu (ρ:Nat→Nat) (n:Nat) (st:List (Nat × AV)):List (Nat × AV)→Prop
 | []=>True
 | (i,v)::r=>(Qf n v∧look st i=aD ρ v)∧Qu ρ n st r
def tB (ρ:Nat→Nat) (b:Nat):List (Nat × Bk)→Prop
 | []=>True
 | (b',_)::r=>ρ b'≠ρ b∧tB ρ b r
def oz (ρ:Nat→Nat) (n:Nat) (s:St):List (Nat × Bk)→Prop
 | []=>True
 | (b,x)::r=>(b < n∧bP n x∧Qc s.h s.n (ρ b)=Qx ρ x∧tB ρ b r)∧oz ρ n s r
def Sub (ρ:Nat→Nat) (s s':St):Prop:=Qu ρ s'.n s.t s'.t∧oz ρ s'.n s s'.h
theorem P7:∀ (l:List (Nat × AV)) (i:Nat),look l i=.any∨∃ p ∈ l,p.1=i∧look l i=p.2
 | [],_=>.inl rfl
 | (j,v)::l,i=>by
  rw[Yw]
  by_cases h:j=i
  ·rw[if_pos h];exact .inr ⟨(j,v),by simp,h,rfl⟩
  ·rw[if_neg h]
   rcases P7 l i with h'|⟨p,h1,h2,h3⟩
   ·exact .inl h'
   ·exact .inr ⟨p,by simp[h1],h2,h3⟩
theorem Zn:∀ (l:List (Nat × Bk)) (n i:Nat),(Qc l n i=if i < n then .dead else .free)∨∃ p ∈ l,p.1=i∧Qc l n i=p.2
 | [],n,i=>by
  exact .inl rfl
 | (j,v)::l,n,i=>by
  rw[Qd]
  by_cases h:j=i
  ·rw[if_pos h];exact .inr ⟨(j,v),by simp,h,rfl⟩
  ·rw[if_neg h]
   rcases Zn l n i with h'|⟨p,h1,h2,h3⟩
   ·exact .inl h'
   ·exact .inr ⟨p,by simp[h1],h2,h3⟩
theorem P8 {ρ:Nat→Nat} {n:Nat} {st:List (Nat × AV)}:∀ {l:List (Nat × AV)},Qu ρ n st l→∀ p ∈ l,Qf n p.2∧look st p.1=aD ρ p.2
 | [],_,p,hp=>by cases hp
 | (i,v)::r,h,p,hp=>by
  rcases List.mem_cons.1 hp with rfl|hp
  ·exact h.1
  ·exact P8 h.2 p hp
theorem JA {ρ:Nat→Nat} {b:Nat}:∀ {l:List (Nat × Bk)},tB ρ b l→∀ p ∈ l,ρ p.1≠ρ b
 | [],_,p,hp=>by cases hp
 | (i,v)::r,h,p,hp=>by
  rcases List.mem_cons.1 hp with rfl|hp
  ·exact h.1
  ·exact JA h.2 p hp
theorem JB {ρ:Nat→Nat} {n:Nat} {s:St}:∀ {l:List (Nat × Bk)},oz ρ n s l→∀ p ∈ l,p.1 < n∧bP n p.2∧Qc s.h s.n (ρ p.1)=Qx ρ p.2
 | [],_,p,hp=>by cases hp
 | (i,v)::r,h,p,hp=>by
  rcases List.mem_cons.1 hp with rfl|hp
  ·exact ⟨h.1.1,h.1.2.1,h.1.2.2.1⟩
  ·exact JB h.2 p hp
theorem P9 {ρ:Nat→Nat} {n:Nat} {s:St}:∀ {l:List (Nat × Bk)},oz ρ n s l→∀ p ∈ l,∀ q ∈ l,ρ p.1=ρ q.1→p.1=q.1
 | [],_,p,hp=>by cases hp
 | (i,v)::r,h,p,hp=>by
  intro q hq e
  rcases List.mem_cons.1 hp with rfl|hp<;>rcases List.mem_cons.1 hq with rfl|hq
  ·rfl
  ·exact absurd e.symm (JA h.1.2.2.2 q hq)
  ·exact absurd e (JA h.1.2.2.2 p hp)
  ·exact P9 h.2 p hp q hq e
theorem Xxf {ls BD:List (List AV)} (hp:BD.Perm ls) (hn:∀ l ∈ ls,ah 0 l):ah 0 BD.flatten:=Xi.2 fun x hx=>by
 obtain ⟨l,hl,hx⟩:=List.mem_flatten.1 hx
 exact Xi.1 (hn l (hp.mem_iff.1 hl)) x hx
theorem BR.j9 {g g':Nat→GM} {W W':Nat→Prop} {w:World} {m:GM} {ls:List (List AV)} (h:BR g W w m (.dd ls)) (hn:∀ l ∈ ls,ah 0 l) (hW:∀ k,W' k→W k):BR g' W' w m (.dd ls):=by
 cases h with
 | dd hp h =>
  refine .dd hp ?_
  have hf:=Xxf hp hn
  generalize List.flatten _=cs at h hf
  cases h with
  | ph=>exact .ph
  | cells hb hl h1 hv hz=>exact .cells hb hl h1 (fun j hj=>((hv j hj).nm (Zs hf j) (fun b hb=>by omega)).mono (Fr.refl w W) (fun k _=>hW k) (fun _ _=>rfl)) hz
section
variable {g g':Nat→GM} {W W':Nat→Prop} {w:World}
theorem BR.iN {ρ:Nat→Nat} {n:Nat} (fh:∀ b,b < n→g (ρ b)≠.un→g (ρ b)=g' b) {mm:GM} {x:Bk} (h:BR g W w mm (Qx ρ x)) (hn:bP n x) (hW:∀ k,W' k→W k):BR g' W' w mm x:=by
 have back:∀ {v u},Qf n v→VR g W w (aD ρ v) u→VR g' W' w v u:=fun hn h=>(h.iN fh _ rfl hn).mono (Fr.refl w W) (fun k _=>hW k) (fun _ _=>rfl)
 cases x with
 | free=>exact hn.elim
 | dead=>exact hn.elim
 | cells cs =>
  simp only[Qx]at h
  simp only[bP]at hn
  generalize iw:ay ρ cs=cs' at h
  cases h with
  | ph =>
   have:cs=[]:=by cases cs<;>simp_all [ay]
   subst this;exact .ph
  | cells hb hl h1 hv hz =>
   subst iw
   rw[Yg]at hl h1 hv
   exact .cells hb hl h1 (fun j hj=>back (Zs hn j) (by have:=hv j hj;rwa [Ko]at this)) hz
 | aC kvs dn =>
  simp only[Qx]at h
  simp only[bP]at hn
  generalize iw:(kvs.map fun p=>(aD ρ p.1,aD ρ p.2))=kvs' at h
  cases h with
  | aC hb hs j7 hv hc ha hd =>
   subst iw
   rw[List.length_map]at hs j7 hv
   have aV:∀ j,j < kvs.length→(kvs.map fun p=>(aD ρ p.1,aD ρ p.2)).getD j (.any,.any)=(aD ρ (kvs.getD j (.any,.any)).1,aD ρ (kvs.getD j (.any,.any)).2):=fun j hj=>by simp[List.getD,hj]
   have bJ:∀ j,j < kvs.length→kvs.getD j (.any,.any) ∈ kvs:=fun j hj=>by simp[List.getD,hj]
   exact .aC hb hs (fun j hj=>back (hn _ (bJ j hj)).1 (by have:=j7 j hj;rwa [aV j hj]at this)) (fun j hj=>back (hn _ (bJ j hj)).2 (by have:=hv j hj;rwa [aV j hj]at this)) hc ha hd
 | bn kvs bs ck =>
  simp only[Qx]at h
  simp only[bP]at hn
  generalize iw:(kvs.map fun p=>(aD ρ p.1,aD ρ p.2))=kvs' at h
  cases h with
  | bn hb hs j7 hv hc ha hd =>
   subst iw
   rw[List.length_map]at hs j7 hv
   have aV:∀ j,j < kvs.length→(kvs.map fun p=>(aD ρ p.1,aD ρ p.2)).getD j (.any,.any)=(aD ρ (kvs.getD j (.any,.any)).1,aD ρ (kvs.getD j (.any,.any)).2):=fun j hj=>by simp[List.getD,hj]
   have bJ:∀ j,j < kvs.length→kvs.getD j (.any,.any) ∈ kvs:=fun j hj=>by simp[List.getD,hj]
   exact .bn hb hs (fun j hj=>back (hn _ (bJ j hj)).1 (by have:=j7 j hj;rwa [aV j hj]at this)) (fun j hj=>back (hn _ (bJ j hj)).2 (by have:=hv j hj;rwa [aV j hj]at this)) hc ha hd
 | iter b0 ck seen =>
  simp only[Qx]at h
  simp only[bP]at hn
  generalize iw:ρ b0=b1 at h
  cases h with
  | iter hb kL=>exact .iter hb (by rw[← fh b0 hn (by rw[iw,kL];intro x;cases x),iw];exact kL)
 | dd ls=>exact BR.j9 h hn hW
end
theorem Xc {n:Nat} {x:Bk} (h:bP n x):x.live:=by cases x<;>simp_all [bP,Bk.live]
theorem w5 {ρ:Nat→Nat} {x:Bk}:(Qx ρ x).live ↔ x.live:=by cases x<;>simp[Qx,Bk.live]
section
variable {P:Program} {c:Cx}
open Classical in
theorem Sub.to {ρ:Nat→Nat} {s s':St} (hs:Sub ρ s s') {g:Nat→GM} {a:Act} {w:World} (hR:R c g s.fs a w) (gO:∀ p ∈ c.gh,ρ p.1=p.1∧p.1 < s'.n):∃ g',R c g' s'.fs a w:=by
 obtain ⟨hT,hH⟩:=hs
 let g':Nat→GM:=fun b=>if b < s'.n then (if g (ρ b)=.un then .ph else g (ρ b)) else .un
 have fh:∀ b,b < s'.n→g (ρ b)≠.un→g (ρ b)=g' b:=fun b hb h=>by simp only[g',if_pos hb,if_neg h]
 have iq:∀ b,s'.n≤b→g' b=.un:=fun b hb=>by simp only[g'];rw[if_neg ae]
 have bY:∀ b,b < s'.n→g' b≠.un:=fun b hb=>by
  simp only[g',if_pos hb]
  split
  ·intro h;cases h
  ·assumption
 -- JC a live name of s' is
 have aO:∀ b,(s'.fs.H b).live→∃ p ∈ s'.h,p.1=b∧s'.fs.H b=p.2:=fun b hl=>by
  rcases Zn s'.h s'.n b with h|h
  ·have:s'.fs.H b=if b < s'.n then .dead else .free:=h
   rw[this]at hl;split at hl<;>exact hl.elim
  ·exact h
 have iO:∀ b,(s'.fs.H b).live→b < s'.n∧(s.fs.H (ρ b)).live∧g' b=g (ρ b):=fun b hl=>by
  obtain ⟨p,hp,rfl,e⟩:=aO b hl
  obtain ⟨h1,h2,h3⟩:=JB hH p hp
  have cR:(s.fs.H (ρ p.1)).live:=by
   show (Qc s.h s.n (ρ p.1)).live
   rw[h3,w5];exact Xc h2
  refine ⟨h1,cR,(fh _ h1 fun e=>?_).symm⟩
  have:=hR.h (ρ p.1)
  rw[e]at this
  generalize s.fs.H (ρ p.1)=x at this cR
  exact this.fW cR
 have hW:∀ k,Qn c g' s'.fs k→Qn c g s.fs k:=by
  rintro k (h|⟨b,h1,h2⟩)
  ·exact .inl h
  ·obtain ⟨_,h4,h5⟩:=iO b h1
   exact .inr ⟨ρ b,h4,by rw[← h5];exact h2⟩
 have hf:=Fr.refl w (Qn c g s.fs)
 have BX:∀ {v u},VR g' (Qn c g s.fs) w v u→VR g' (Qn c g' s'.fs) w v u:=fun h=>h.mono hf (fun k _=>hW k) (fun _ _=>rfl)
 have back:∀ {v u},Qf s'.n v→VR g (Qn c g s.fs) w (aD ρ v) u→VR g' (Qn c g' s'.fs) w v u:=fun hn h=>BX (h.iN fh _ rfl hn)
 refine ⟨g',hR.size,hR.dK,fun i=>?_,fun i=>(hR.gl i).mono hf (fun k _=>hW k) (fun _ _=>rfl),fun b=>?_,fun b b' k h1 h2 e1 e2=>?_,fun b k h1 e1=>?_,hR.fr,hR.xs,fun p hp=>?_⟩
 ·rcases P7 s'.t i with h|⟨p,h1,rfl,h3⟩
  ·show VR g' _ w (look s'.t i) _
   rw[h];exact .any _
  ·show VR g' _ w (look s'.t p.1) _
   rw[h3]
   obtain ⟨q1,q2⟩:=P8 hT p h1
   have:=hR.t p.1
   have e:s.fs.T p.1=aD ρ p.2:=q2
   rw[e]at this
   exact back q1 this
 ·rcases Zn s'.h s'.n b with h|⟨p,h1,rfl,h3⟩
  ·show BR g' _ w _ (Qc s'.h s'.n b)
   rw[h]
   split
   ·rename_i hb;exact .dead (bY b hb)
   ·rename_i hb;rw[iq b ae];exact .free
  ·show BR g' _ w _ (Qc s'.h s'.n p.1)
   rw[h3]
   obtain ⟨q1,q2,q3⟩:=JB hH p h1
   have hl:(s'.fs.H p.1).live:=by
    show (Qc s'.h s'.n p.1).live
    rw[h3];exact Xc q2
   obtain ⟨_,_,e5⟩:=iO p.1 hl
   rw[e5]
   have dT:=hR.h (ρ p.1)
   have e:s.fs.H (ρ p.1)=Qx ρ p.2:=q3
   rw[e]at dT
   exact dT.iN fh q2 hW
 ·obtain ⟨p1,oA,rfl,_⟩:=aO b h1
  obtain ⟨p2,fb,rfl,_⟩:=aO b' h2
  obtain ⟨_,l1,d1⟩:=iO _ h1
  obtain ⟨_,l2,d2⟩:=iO _ h2
  exact P9 hH p1 oA p2 fb (hR.inj _ _ k l1 l2 (by rw[← d1];exact e1) (by rw[← d2];exact e2))
 ·obtain ⟨_,l1,d1⟩:=iO _ h1
  exact hR.old _ k l1 (by rw[← d1];exact e1)
 ·obtain ⟨q1,q2⟩:=hR.hU p hp
  obtain ⟨q3,q4⟩:=gO p hp
  have:=fh p.1 q4 (by rw[q3,q1];exact q2)
  rw[← this,q3];exact ⟨q1,q2⟩
def FB {σ:Type} (I:σ→Prop) (da:σ→St) (μ:σ→Nat) (x:σ) (Q:EX→St→Prop):EX→St→Prop
 | .normal,s=>∃ y,I y∧(∃ ρ,Sub (rl ρ) s (da y))∧μ y < μ x
 | e,s=>Q e s
theorem Xd {σ:Type} (I:σ→Prop) (da:σ→St) (μ:σ→Nat) {b:TC} {Q:EX→St→Prop} {s:St} (hm:P.follows .mixedOrders=true) (aY:c.gh=[]) (h0:∃ y,I y∧∃ ρ,Sub (rl ρ) s (da y))
  (hr:∀ x,I x→xw P c b (FB I da μ x Q) (da x)):qg P c b Q s:=by
 intro code he g a w hR
 obtain ⟨y0,BY,ρ0,kW⟩:=h0
 obtain ⟨g0,jM⟩:=kW.to hR (by rw[aY];intro p hp;cases hp)
 have key:∀ n (x:σ),μ x=n→I x→∀ g a w,R c g (da x).fs a w→∀ (fr:Frame) (k:List Item) (cs:List Frame),∃ e a' w',Fz c Q e a' w'∧Arrives P (lone (fr.at a (.code code::.inLoop code::k)) cs w) fr k cs e a' w':=by
  intro n
  induction n using Nat.strongRecOn with
  | _ n ih =>
   intro x hx hI g a w hR fr k cs
   have hb:=vn hm code b _ _ he (hr x hI) g a w hR
   obtain ⟨e,a1,w1,hq,eU⟩:=hb fr (.inLoop code::k) cs
   cases e with
   | normal =>
    obtain ⟨g1,s1,cx,y,BZ,⟨ρ,hs⟩,hlt⟩:=hq
    obtain ⟨g2,bR⟩:=hs.to cx (by rw[aY];intro p hp;cases hp)
    obtain ⟨e2,a2,w2,lP,kX⟩:=ih (μ y) ae y rfl BZ g2 a1 w1 bR fr k cs
    exact ⟨e2,a2,w2,lP,.of_steps (Steps.trans eU (.one step_inLoop)) kX⟩
   | exit i=>exact ⟨.exit i,a1,w1,hq,.pass (x:=.inLoop code) rfl (fun _ _=>.inl au) eU⟩
   | ret=>exact ⟨.ret,a1,w1,hq,.pass (x:=.inLoop code) rfl (fun _ _=>.inl au) eU⟩
   | goto l=>exact hq.elim
   | panic ch=>exact hq.elim
   | outgrown=>exact hq.elim
 intro fr k cs
 obtain ⟨e,a',w',hq,eU⟩:=key _ y0 rfl BY g0 a w jM fr k cs
 exact ⟨e,a',w',hq,.of_steps (.one step_loop) eU⟩
def qh (m:Nat) (ρ:List (Nat × Nat)) (n:Nat):Prop:=(∀ p ∈ ρ,m≤p.1)∧m≤n
theorem QA {m:Nat}:∀ {ρ:List (Nat × Nat)} (_:∀ p ∈ ρ,m≤p.1) {b:Nat},b < m→rl ρ b=b
 | [],_,_,_=>rfl
 | (i,j)::ρ,h,b,hb=>by
  have h1:m≤i:=h (i,j) au
  have h2:=QA (ρ:=ρ) (fun p hp=>h p (by simp[hp])) hb
  have:(i == b)=false:=by simp;omega
  simp only[rl,this,cond_false,h2]
theorem JD {m:Nat} {ρ:List (Nat × Nat)} {n:Nat} (aY:∀ p ∈ c.gh,p.1 < m) (h:qh m ρ n):∀ p ∈ c.gh,rl ρ p.1=p.1∧p.1 < n:=fun p hp=>⟨QA h.1 (aY p hp),Nat.lt_of_lt_of_le (aY p hp) h.2⟩
def FC {σ:Type} (m:Nat) (I:σ→Prop) (da:σ→St) (μ:σ→Nat) (x:σ) (Q:EX→St→Prop):EX→St→Prop
 | .normal,s=>∃ y,I y∧(∃ ρ,qh m ρ (da y).n∧Sub (rl ρ) s (da y))∧μ y < μ x
 | e,s=>Q e s
theorem Ui {σ:Type} (I:σ→Prop) (da:σ→St) (μ:σ→Nat) {b:TC} {Q:EX→St→Prop} {s:St} (hm:P.follows .mixedOrders=true) (m:Nat) (aY:∀ p ∈ c.gh,p.1 < m) (h0:∃ y,I y∧∃ ρ,qh m ρ (da y).n∧Sub (rl ρ) s (da y))
  (hr:∀ x,I x→xw P c b (FC m I da μ x Q) (da x)):qg P c b Q s:=by
 intro code he g a w hR
 obtain ⟨y0,BY,ρ0,hp0,kW⟩:=h0
 obtain ⟨g0,jM⟩:=kW.to hR (JD aY hp0)
 have key:∀ n (x:σ),μ x=n→I x→∀ g a w,R c g (da x).fs a w→∀ (fr:Frame) (k:List Item) (cs:List Frame),∃ e a' w',Fz c Q e a' w'∧Arrives P (lone (fr.at a (.code code::.inLoop code::k)) cs w) fr k cs e a' w':=by
  intro n
  induction n using Nat.strongRecOn with
  | _ n ih =>
   intro x hx hI g a w hR fr k cs
   have hb:=vn hm code b _ _ he (hr x hI) g a w hR
   obtain ⟨e,a1,w1,hq,eU⟩:=hb fr (.inLoop code::k) cs
   cases e with
   | normal =>
    obtain ⟨g1,s1,cx,y,BZ,⟨ρ,hp,hs⟩,hlt⟩:=hq
    obtain ⟨g2,bR⟩:=hs.to cx (JD aY hp)
    obtain ⟨e2,a2,w2,lP,kX⟩:=ih (μ y) ae y rfl BZ g2 a1 w1 bR fr k cs
    exact ⟨e2,a2,w2,lP,.of_steps (Steps.trans eU (.one step_inLoop)) kX⟩
   | exit i=>exact ⟨.exit i,a1,w1,hq,.pass (x:=.inLoop code) rfl (fun _ _=>.inl au) eU⟩
   | ret=>exact ⟨.ret,a1,w1,hq,.pass (x:=.inLoop code) rfl (fun _ _=>.inl au) eU⟩
   | goto l=>exact hq.elim
   | panic ch=>exact hq.elim
   | outgrown=>exact hq.elim
 intro fr k cs
 obtain ⟨e,a',w',hq,eU⟩:=key _ y0 rfl BY g0 a w jM fr k cs
 exact ⟨e,a',w',hq,.of_steps (.one step_loop) eU⟩
def zJ (P : Program) (f : FuncId) : Prop := ∃ fn, P.funcs[f]? = some fn ∧ fn.body.isNone = false ∧ (fn.name == "runtime.NumGoroutine") = false
def PS (P:Program) (gl:Nat→AV) (f:FuncId) (args:List AV) (r:AV):Prop :=
 zJ P f∧∀ (w:World) (vs:List Value) (X:Nat→Prop),(∀ k,X k→k < w.heap.size)→(∀ i,VR (fun _=>.un) X w (gl i) (.pointer (some ⟨i,0,none⟩)))→bO (fun _=>.un) X w args vs →
  Calls P f vs.toArray w fun e w'=>∃ v,e=.returned v∧VR (fun _=>.un) X w' r v∧Fr w w' (fun _=>False)
inductive RS where
 | t (i:Nat)
 | cell (a:Nat) (ty:TY)
def m9 (P:Program):List ResultVar→Option (List RS)
 | []=>some []
 | .tmp t::r=>(m9 P r).map (.t t::·)
 | .cell a t::r=>match kM P t,m9 P r with
  | some ty,some l=>some (.cell a ty::l)
  | _,_=>none
def rv (s:FS):RS→AV
 | .t i=>s.T i
 | .cell a ty=>match s.T a with
  | .ptr b off=>match s.H b with
   | .cells cs=>wr ty cs off
   | _=>.any
  | _=>.any
def Wq (s:FS):List RS→Prop
 | []=>True
 | .t _::r=>Wq s r
 | .cell a ty::r=>(match s.T a with
  | .ptr b off=>match s.H b with
   | .cells cs=>j8 ty cs off
   | _=>False
  | _=>False)∧Wq s r
def ga (s:FS):List RS→AV
 | [x]=>rv s x
 | l=>.aU (l.map (rv s))
def Yj (s:FS):AV→AV
 | .sl es b off n _=>match s.H b with
  | .cells cs=>.isl n ((cs.drop off).take (n * es))
  | _=>.any
 | v=>v
def Yx (s:FS):AV→AV
 | .agg cs=>.agg (cs.map (Yj s))
 | v=>Yj s v
def gb (s:FS):AV→AV
 | .aU vs=>.aU (vs.map (Yx s))
 | v=>Yx s v
def B0 (rs:List RS) (r:AV):EX→St→Prop
 | .exit _,_=>False
 | _,s=>Wq s.fs rs∧gb s.fs (ga s.fs rs)=r
def jz:Nat→List AV→List (Nat × AV)
 | _,[]=>[]
 | k,x::xs=>(k,x)::jz (k + 1) xs
theorem JE:∀ (xs:List AV) (k i:Nat),look (jz k xs) i=if k≤i∧i < k + xs.length then xs.getD (i - k) .any else .any
 | [],k,i=>by
  rw[if_neg (fun h=>by have:=h.2;simp at this;omega)];rfl
 | x::xs,k,i=>by
  simp only[jz]
  rw[Yw,JE xs (k + 1) i]
  by_cases h:k=i
  ·subst h;rw[if_pos rfl,if_pos au];simp
  ·rw[if_neg h]
   simp only[List.length_cons]
   by_cases h2:k + 1≤i∧i < k + 1 + xs.length
   ·rw[if_pos h2,if_pos ae]
    have:i - k=(i - (k + 1)) + 1:=by omega
    rw[this];simp
   ·rw[if_neg h2,if_neg ae]
theorem JF {g:Nat→GM} {s:FS} {a:Act} {w:World} (hR:R c g s a w):∀ (rs:List ResultVar) (l:List RS),m9 P rs=some l→Wq s l →
  ∃ vs:List Value,(rs.mapM (fun x=>(match x with|.tmp t=>pure (a.tmps.getD t undef)|.cell ad t=>do loadVar t (← asAddr (a.tmps.getD ad undef)):Sem Value))).run P w=.ok vs w∧bO g (Qn c g s) w (l.map (rv s)) vs
 | [],l,he,_=>by simp[m9]at he;subst he;exact ⟨[],by simp,trivial⟩
 | .tmp t::r,l,he,ho=>by
  simp only[m9,Option.map_eq_some_iff]at he
  obtain ⟨l',h1,rfl⟩:=he
  obtain ⟨vs,h2,h3⟩:=JF hR r l' h1 ho
  exact ⟨a.tmps.getD t undef::vs,by simp only[List.mapM_cons,Sem.run_bind,Sem.run_pure,Result.andThen_ok,h2],hR.t t,h3⟩
 | .cell ad t::r,l,he,ho=>by
  simp only[m9]at he
  split at he
  ·rename_i ty l' jw hl
   simp at he;subst he
   obtain ⟨w6,ho2⟩:=ho
   obtain ⟨vs,h2,h3⟩:=JF hR r l' hl ho2
   have ht:=hR.t ad
   cases hT:s.T ad<;>rw[hT]at w6<;>simp only at w6
   rename_i b off
   rw[hT]at ht
   obtain ⟨k,e1,e2⟩:=zx ht
   cases hH:s.H b<;>rw[hH]at w6<;>simp only at w6
   rename_i cs
   have dT:=hR.h b
   rw[hH]at dT
   have B5:∃ v,(loadVar t ⟨k,off,none⟩).run P w=.ok v w∧VR g (Qn c g s) w (wr ty cs off) v:=by
    by_cases dS:0 < cs.length
    ·obtain ⟨k',us,q1,q2,q3,q4⟩:=IE dT dS
     rw[e2]at q1;cases q1
     obtain ⟨v,hr,oc⟩:=BH (P:=P) (o:=0) jw q2 q3 q4 w6
     exact ⟨v,by simpa [Instr.loadAt,Instr.sureAddr] using hr,oc⟩
    ·obtain ⟨rfl,rfl,rfl⟩:=Pq w6 dS
     obtain ⟨v,hr,oc⟩:=BH (P:=P) (g:=g) (W:=Qn c g s) (k:=k) (o:=0) (us:=fun _=>undef) jw (fun j hj=>absurd hj au) (fun j hj=>absurd hj au) (fun j hj=>absurd hj au) w6
     exact ⟨v,by simpa [Instr.loadAt,Instr.sureAddr] using hr,oc⟩
   obtain ⟨v,nc,fN⟩:=B5
   refine ⟨v::vs,?_,?_,h3⟩
   ·have JG:(asAddr (a.tmps.getD ad undef)).run P w=.ok ⟨k,off,none⟩ w:=by rw[e1];rfl
    simp only[List.mapM_cons,Sem.run_bind,JG,Sem.run_pure,Result.andThen_ok,nc,h2]
   ·have:rv s (.cell ad ty)=wr ty cs off:=by simp only[rv,hT,hH]
    rw[this];exact fN
  ·cases he
theorem B6 {fn:Func} {l:List RS} {g:Nat→GM} {s:FS} {a:Act} {w:World} (hR:R c g s a w) (he:m9 P fn.results.toList=some l) (ho:Wq s l):∃ v,(results fn a.tmps).run P w=.ok v w∧VR g (Qn c g s) w (ga s l) v:=by
 obtain ⟨vs,h1,h2⟩:=JF hR _ _ he ho
 have h3:(fn.results.mapM (fun x=>(match x with|.tmp t=>pure (a.tmps.getD t undef)|.cell ad t=>do loadVar t (← asAddr (a.tmps.getD ad undef)):Sem Value))).run P w=.ok vs.toArray w:=by
  rw[Array.mapM_eq_mapM_toList]
  simp only[Sem.run_map,h1,Result.andThen_ok]
 have h4:(results fn a.tmps).run P w=.ok (if h:vs.toArray.size=1 then vs.toArray[0] else .tuple vs.toArray) w:=by
  unfold results
  rw[Sem.run_bind]
  exact (congrArg (fun r=>Result.andThen r _) h3).trans rfl
 refine ⟨_,h4,?_⟩
 clear h4 h3 h1
 match l,vs,h2 with
 | [x],[v],h2=>exact h2.1
 | [],[],_=>exact .aU rfl fun j hj=>absurd hj au
 | x::y::l,u::v::vs,h2 =>
  rw[dif_neg au]
  have hl:=h2.length
  exact .aU (by simp at hl ⊢;omega) fun j hj=>by
   have:=h2.get j hj
   simpa using this
theorem QB {g:Nat→GM} {s:FS} {a:Act} {w:World} (hR:R c g s a w) {b k:Nat} (hl:(s.H b).live) (hg:g b=.re k):¬ c.X k:=fun hx=>by
 have h1:=hR.xs k hx
 rcases hR.old b k hl hg with h|h
 ·omega
 ·exact h1.2 h
theorem VR.shut {g:Nat→GM} {s:FS} {a:Act} {w:World} (hR:R c g s a w) {v:AV} {u:Value} (h:VR g (Qn c g s) w v u) (hn:Qf 0 v):VR (fun _=>.un) c.X w v u :=
 (h.nm hn (g':=fun _=>.un) (fun b hb=>absurd hb ae)).mono (Fr.refl _ _) (fun _ _ h=>.inl h) (fun _ _=>rfl)
theorem QC {g:Nat→GM} {s:FS} {a:Act} {w:World} (hR:R c g s a w) {v:AV} {u:Value} (h:VR g (Qn c g s) w v u) (hn:Qf 0 (Yj s v)):VR (fun _=>.un) c.X w (Yj s v) u:=by
 by_cases hs:∃ es b off n k,v=.sl es b off n k
 ·obtain ⟨es,b,off,n,k,rfl⟩:=hs
  simp only[Yj]at hn ⊢
  cases hH:s.H b with
  | cells cs =>
   rw[hH]at hn
   simp only at hn ⊢
   simp only[Qf]at hn
   have dT:=hR.h b
   rw[hH]at dT
   rcases po h with ⟨kk,cap,e,cur,fz,rfl,hg,h1,h2,h3,h4,h5⟩|⟨vh,rfl,hg,rfl,rfl⟩
   ·rw[hg]at dT
    have hx:=QB hR (by rw[hH];trivial) hg
    cases dT with
    | cells hb hl jL hv hz =>
     rename_i JH e2 fz2
     rw[h4]at hb;cases hb
     have hlen:∀ j,j < ((cs.drop off).take (n * es)).length→off + j < cs.length∧j < n * es:=fun j hj=>by simp at hj;omega
     refine .isl (us:=fun j=>cur.getD (off + j) undef) ae h3 (fun j hj=>?_) fun j hj=>?_
     ·obtain ⟨pq,fG⟩:=hlen j hj
      refine ⟨kk,off,rfl,?_,hx,jL _ pq⟩
      have:=cell_of_row w kk (off + j) cur e fz h4
      unfold Ud
      rw[this]
      have:off + j < cur.size:=by omega
      simp[Array.getD,this]
     ·obtain ⟨pq,fG⟩:=hlen j hj
      have ee:((cs.drop off).take (n * es)).getD j .any=cs.getD (off + j) .any:=by simp only[List.getD,List.getElem?_take,List.getElem?_drop,if_pos fG]
      have mo:=Zs hn j
      rw[ee]at mo ⊢
      exact (hv _ pq).shut hR mo
   ·refine .isl (us:=fun _=>undef) (Nat.le_refl 0) (by simp[maxLen]) (fun j hj=>?_) fun j hj=>?_
    ·simp at hj
    ·simp at hj
  | _=>exact .any _
 ·have:Yj s v=v:=by
   cases v<;>first|rfl|exact absurd ⟨_,_,_,_,_,rfl⟩ hs
  rw[this]at hn ⊢
  exact h.shut hR hn
theorem JI {g:Nat→GM} {s:FS} {a:Act} {w:World} (hR:R c g s a w) {v:AV} {u:Value} (h:VR g (Qn c g s) w v u) (hn:Qf 0 (Yx s v)):VR (fun _=>.un) c.X w (Yx s v) u:=by
 by_cases hs:∃ cs,v=.agg cs
 ·obtain ⟨cs,rfl⟩:=hs
  simp only[Yx]at hn ⊢
  simp only[Qf]at hn
  obtain ⟨us,rfl,h1,h2,h3⟩:=Wv h
  refine .agg (by simpa using h1) (fun j hj=>h2 j (by simpa using hj)) fun j hj=>?_
  have cV:j < cs.length:=by simpa using hj
  have ee:(cs.map (Yj s)).getD j .any=Yj s (cs.getD j .any):=by simp[List.getD,cV]
  have mo:=Zs hn j
  rw[ee]at mo ⊢
  exact QC hR (h3 j cV) mo
 ·have:Yx s v=Yj s v:=by
   cases v<;>first|rfl|exact absurd ⟨_,rfl⟩ hs
  rw[this]at hn ⊢
  exact QC hR h hn
theorem Ye1 {g:Nat→GM} {s:FS} {a:Act} {w:World} (hR:R c g s a w) {v:AV} {u:Value} (h:VR g (Qn c g s) w v u) (hn:Qf 0 (gb s v)):VR (fun _=>.un) c.X w (gb s v) u:=by
 by_cases hs:∃ cs,v=.aU cs
 ·obtain ⟨cs,rfl⟩:=hs
  simp only[gb]at hn ⊢
  simp only[Qf]at hn
  obtain ⟨us,rfl,h1,h3⟩:=BJ h
  refine .aU (by simpa using h1) fun j hj=>?_
  have cV:j < cs.length:=by simpa using hj
  have ee:(cs.map (Yx s)).getD j .any=Yx s (cs.getD j .any):=by simp[List.getD,cV]
  have mo:=Zs hn j
  rw[ee]at mo ⊢
  exact JI hR (h3 j cV) mo
 ·have:gb s v=Yx s v:=by
   cases v<;>first|rfl|exact absurd ⟨_,rfl⟩ hs
  rw[this]at hn ⊢
  exact JI hR h hn
theorem Xya {w:World} {vs:List Value} {args:List AV} {N:Nat} (hN:args.length≤N) {X:Nat→Prop} {gl:Nat→AV} (hX:∀ k,X k→k < w.heap.size) (ka:∀ i,VR (fun _=>.un) X w (gl i) (.pointer (some ⟨i,0,none⟩)))
  (hv:bO (fun _=>.un) X w args vs):R ⟨N,w,fun _=>False,X,gl,[]⟩ (fun _=>.un) (⟨jz 0 args,[],0⟩:St).fs { tmps:=vs.toArray++Array.replicate (N - vs.toArray.size) undef,defers:=[] } w:=by
 have hl:=hv.length
 have hH:∀ b,(⟨jz 0 args,[],0⟩:St).fs.H b=.free:=fun b=>by
  show Qc [] 0 b=.free
  rcases Zn [] 0 b with h|⟨p,hp,_⟩
  ·rw[h];simp
  ·cases hp
 have hW:∀ k,Qn ⟨N,w,fun _=>False,X,gl,[]⟩ (fun _=>.un) (⟨jz 0 args,[],0⟩:St).fs k→X k:=by
  rintro k (h|⟨b,h1,_⟩)
  ·exact h
  ·rw[hH]at h1;exact h1.elim
 have kR:∀ {v u},VR (fun _=>.un) X w v u→VR (fun _=>.un) (Qn ⟨N,w,fun _=>False,X,gl,[]⟩ (fun _=>.un) (⟨jz 0 args,[],0⟩:St).fs) w v u:=fun h=>h.mono (Fr.refl _ _) (fun k _=>hW k) (fun _ _=>rfl)
 refine ⟨by simp;omega,rfl,fun i=>?_,fun i=>kR (ka i),fun b=>by rw[hH];exact .free,fun b b' k h=>by rw[hH]at h;exact h.elim,fun b k h=>by rw[hH]at h;exact h.elim,Fr.refl _ _,fun k hk=>⟨hX k hk,id⟩,fun p hp=>by cases hp⟩
 show VR _ _ w (look (jz 0 args) i) _
 rw[JE]
 split
 ·rename_i h
  have hi:i < vs.length:=by omega
  have:=hv.get i ae
  have e:(vs.toArray++Array.replicate (N - vs.toArray.size) undef).getD i undef=vs.getD i undef:=by
   simp only[Array.getD_eq_getD_getElem?,List.getD]
   rw[Array.getElem?_append_left (by simpa using hi)]
   simp
  rw[e]
  simpa using kR this
 ·exact .any _
theorem Xun {gl : Nat → AV} {f : FuncId} {fn : Func} {code : Code} {t : TC} {rs : List RS} {args : List AV} {r : AV} (hm : P.follows .mixedOrders = true) (hf : P.funcs[f]? = some fn) (hb : fn.body = some code) (dU : (fn.name == "runtime.NumGoroutine") = false)
  (he:Jc P fn.ntmps code=some t) (hr:m9 P fn.results.toList=some rs) (hN:args.length≤fn.ntmps) (eE:Qf 0 r)
  (h:∀ c:Cx,c.gh=[]→c.gl=gl→xw P c t (B0 rs r) ⟨jz 0 args,[],0⟩):PS P gl f args r:=by
 refine ⟨⟨fn,hf,by rw[hb];rfl,dU⟩,fun w vs X hX ka hv=>?_⟩
 refine calls_of_wp hf hb ?_
 have hR:=Xya hN hX ka hv
 have:=vn (c:=⟨fn.ntmps,w,fun _=>False,X,gl,[]⟩) hm code t _ _ he (h _ rfl rfl) _ _ _ hR
 refine wp_mono this fun e a' w' hq=>?_
 have fin:∀ (g:Nat→GM) (s:St),R ⟨fn.ntmps,w,fun _=>False,X,gl,[]⟩ g s.fs a' w'→(Wq s.fs rs∧gb s.fs (ga s.fs rs)=r)→a'.defers=[]∧∃ v,(results fn a'.tmps).run P w'=.ok v w'∧(∃ nd,Ending.returned v=.returned nd∧VR (fun _=>.un) X w' r nd∧Fr w w' fun _=>False):=by
  intro g s bf ⟨h1,h2⟩
  obtain ⟨v,h3,h4⟩:=B6 bf hr h1
  refine ⟨bf.dK,v,h3,v,rfl,?_,bf.fr⟩
  rw[← h2]at eE ⊢
  exact Ye1 bf h4 eE
 cases e with
 | normal=>obtain ⟨g,s,bf,cD⟩:=hq;exact fin g s bf cD
 | ret=>obtain ⟨g,s,bf,cD⟩:=hq;exact fin g s bf cD
 | exit i=>obtain ⟨g,s,bf,cD⟩:=hq;exact cD.elim
 | goto l=>exact hq.elim
 | panic ch=>exact hq.elim
 | outgrown=>exact hq.elim
theorem tC {o:Oper} {f:FuncId} {xs:List Operand} (h:Xy P o=some (.call f,xs)):∃ ts,o.op=.call ⟨.value (.func f),xs.toArray,ts⟩:=by
 unfold Xy at h
 repeat' split at h
 all_goals first
  | (simp only[Option.some.injEq,Prod.mk.injEq,PK.call.injEq]at h;obtain ⟨rfl,rfl⟩:=h;rename_i bl;exact ⟨_,by rw[bl]⟩)
  | (simp at h;done)
  | (cases h;done)
  | (simp[Option.map_eq_some_iff]at h;done)
theorem tD {f:FuncId} (hc:zJ P f) {o:Oper} {xs:List Operand} {ts:Array TypeId} (ho:o.op=.call ⟨.value (.func f),xs.toArray,ts⟩) (a:Act) (w:World) :
  (execOp a.eval o).run P w=.ok (.enter f (xs.map a.eval).toArray) w:=by
 obtain ⟨fn,h1,h2,h3⟩:=hc
 have JJ:fn.body≠none:=fun e=>by rw[e]at h2;cases h2
 have JK : fn.name ≠ "runtime.NumGoroutine" := fun e => by rw [e] at h3; cases h3
 simp[execOp,ho,resolve,Act.eval,Deferred.ofValue,invoke,callFunc,program,Sem.run,h1,JJ,JK]
theorem QD {g g':Nat→GM} {W:Nat→Prop} {w:World} {n:Nat} (hg:∀ b,b < n→g b=g' b):∀ {xs:List AV} {vs:List Value},bO g W w xs vs→ah n xs→bO g' W w xs vs
 | [],[],_,_=>trivial
 | _::_,_::_,h,hn=>⟨h.1.nm hn.1 hg,QD hg h.2 hn.2⟩
 | [],_::_,h,_=>h.elim
 | _::_,[],h,_=>h.elim
def Yq (d:Option Nat) (xs:List TV) (gd:Option (Nat × Bool)):bp:=⟨jj gd++Xf xs,[],d.toList,[]⟩
def St.bD (s:St) (d:Option Nat) (v:AV):St :=
 match d with
 | some d=>s.put d v
 | none=>s
def Ue (gl:Nat→AV) (s:FS) (xs:List TV) (gd:Option (Nat × Bool)):Prop:=fx s gd∧Qt (gB s gd) (aF gl s xs)
theorem QE {s:St} {d:Option Nat} {f:FuncId} {xs:List TV} {gd:Option (Nat × Bool)} {args:List AV} {r:AV} (aX:Ue c.gl s.fs xs gd) (aN:(aF c.gl s.fs xs).map Qj=args) (eE:ah 0 args)
  (eg:ob (gB s.fs gd) (PS P c.gl f args r)):Kv P c (.pd d (.call f) xs gd) s.fs (Yq d xs gd) (s.bD d (cw (gB s.fs gd) r)).fs:=by
 intro ops io he
 obtain ⟨bc,bg,hd,ys,aH,rfl⟩:=Zl he
 obtain ⟨ts,bl⟩:=tC aH
 have eV:(s.bD d (cw (gB s.fs gd) r)).fs=match d with|some d=>s.fs.put d (cw (gB s.fs gd) r)|none=>s.fs:=by
  cases d with
  | none=>rfl
  | some d=>exact St.bS _ _ _
 rw[eV]
 refine ⟨fun i hi=>?_,fun b _=>by cases d<;>rfl,?_⟩
 ·cases d with
  | none=>rfl
  | some d=>show (s.fs.put d _).T i=_;rw[FS.dh,if_neg (fun e=>hi (by simp[Yq,e]))]
 ·intro s2 hT hH g a w hR K Q' hK
  have bj:aF c.gl s2 (ys.map aS)=aF c.gl s.fs (ys.map aS):=Xu fun i hi=>hT i (by simp[Yq,hi])
  have hg:∀ t b,gd=some (t,b)→s2.T t=s.fs.T t:=fun t b e=>hT t (by simp[Yq,e,jj])
  have oh:gB s2 gd=gB s.fs gd:=by
   cases gd with
   | none=>rfl
   | some p=>obtain ⟨t,b⟩:=p;simp only[gB,hg t b rfl]
  have om:fx s2 gd:=by
   have:=aX.1
   cases gd with
   | none=>exact this
   | some p=>obtain ⟨t,b⟩:=p;simpa only[fx,hg t b rfl] using this
  have lO:∀ v w',Fr w w' (fun _=>False)→VR g (Qn c g s2) w' (cw (gB s.fs gd) r) v→K (a.put io.dst v) w':=fun v w' hf hv=>by
   rw[bg]
   have bf:=hR.grow hf
   cases d with
   | none =>
    refine hK g _ w' ?_
    have:dj s2 s.fs (Yq none (ys.map aS) gd)=s2:=by unfold dj Yq;simp
    simp only[this];exact bf
   | some d =>
    refine hK g _ w' ?_
    show R c g (dj s2 (s.fs.put d _) ⟨jj gd++Xf (ys.map aS),[],[d],[]⟩) _ _
    rw[wW]
    exact bf.put (by simpa using hd) hv
  unfold me
  rw[vi bc hR om,oh]
  have run:(∀ b,gB s.fs gd=some b→b=true)→io.wp P a w K Q':=by
   intro hb
   have pw:Qt none (aF c.gl s2 (ys.map aS)):=by
    rw[bj]
    have:=aX.2
    cases b9:gB s.fs gd with
    | none=>rw[b9]at this;exact this
    | some b=>rw[b9]at this;exact zD (hb b b9) this
   have qi:PS P c.gl f args r:=by
    cases b9:gB s.fs gd with
    | none=>rw[b9]at eg;exact eg
    | some b=>rw[b9]at eg;exact eg (hb b b9)
   have hv:=Xx (hR.aF ys) pw
   rw[bj,aN]at hv
   have n9:bO (fun _=>.un) (Qn c g s2) w args (ys.map a.eval):=QD (n:=0) (fun b hb=>absurd hb ae) hv eE
   have hX:∀ k,Qn c g s2 k→k < w.heap.size:=by
    rintro k (h|⟨b',hl,fh⟩)
    ·have:=(hR.xs k h).1;have:=hR.fr.size;omega
    ·exact BR.lt (fh ▸ hR.h b') hl
   have cO:=qi.2 w _ _ hX (fun i=>(hR.gl i)) n9
   unfold Oper.wp
   rw[tD qi.1 bl]
   rw[Oper.upon_enter]
   refine cO.mono fun e w' ⟨v,e1,e2,e3⟩=>?_
   subst e1
   refine lO v w' e3 ?_
   have fN:VR g (Qn c g s2) w' r v:=e2.mono (Fr.refl _ _) (fun _ _ h=>h) (fun _ h=>absurd rfl h)
   cases b9:gB s.fs gd with
   | none=>exact fN
   | some b=>exact .dx (fun _=>fN) fun h=>by rw[hb b b9]at h;cases h
  cases b9:gB s.fs gd with
  | none=>simp only[Option.getD_none,if_true];exact run fun b h=>by rw[b9]at h;cases h
  | some b =>
   cases b with
   | true=>simp only[Option.getD_some,if_true];exact run fun b h=>by rw[b9]at h;cases h;rfl
   | false =>
    simp only[Option.getD_some,Bool.false_eq_true,if_false]
    refine lO undef w (Fr.refl _ _) ?_
    rw[b9]
    exact .dx (fun h=>by cases h) fun _=>rfl
theorem Yej {r0:List bG} {K:St→Prop} {s:St} {d:Option Nat} {f:FuncId} {xs:List TV} {gd:Option (Nat × Bool)} {args:List AV} {r:AV} (eg:ob (gB s.fs gd) (PS P c.gl f args r)) (aN:(aF c.gl s.fs xs).map Qj=args)
  (aX:Ue c.gl s.fs xs gd∧ah 0 args∧XP P c r0 K (s.bD d (cw (gB s.fs gd) r))):Xw P c (.pd d (.call f) xs gd) r0 K s :=
 .inl ⟨_,_,QE aX.1 aN aX.2.1 eg,aX.2.2⟩
theorem Yd0 {anc:List Nat} {fs:List bp} {r0:List bG} {K:St→Prop} {s:St} {d:Option Nat} {f:FuncId} {xs:List TV} {gd:Option (Nat × Bool)} {args:List AV} {r:AV} (eg:ob (gB s.fs gd) (PS P c.gl f args r)) (aN:(aF c.gl s.fs xs).map Qj=args)
  (aX:Ue c.gl s.fs xs gd∧ah 0 args∧XD P c anc r0 (Yq d xs gd::fs) K (s.bD d (cw (gB s.fs gd) r))):Zi P c anc (.pd d (.call f) xs gd) r0 fs K s :=
 ⟨_,_,QE aX.1 aN aX.2.1 eg,aX.2.2⟩
structure FT (P:Program) (f:FuncId) (fn:Func) (t:TC) (rs:List RS):Prop where
 func:P.funcs[f]?=some fn
 code:fn.body.bind (Jc P fn.ntmps)=some t
 res:m9 P fn.results.toList=some rs
 name : (fn.name == "runtime.NumGoroutine") = false
 mixed:P.follows .mixedOrders=true
def aQ (P:Program) (fn:Func):TC:=(fn.body.bind (Jc P fn.ntmps)).getD .skip
theorem Ybr {α:Type} {o:Option α} (d:α) (h:o.isSome=true):o=some (o.getD d):=by
 cases o with
 | none=>cases h
 | some x=>rfl
theorem FT.of {P : Program} {f : FuncId} {fn : Func} {rs : List RS} (h1 : P.funcs[f]? = some fn) (h2 : (fn.body.bind (Jc P fn.ntmps)).isSome = true := by kernel_rfl) (h3 : m9 P fn.results.toList = some rs := by kernel_rfl) (h4 : (fn.name == "runtime.NumGoroutine") = false := by kernel_rfl) (h5 : P.follows .mixedOrders = true := by kernel_rfl) : FT P f fn (aQ P fn) rs :=
 ⟨h1,Ybr _ h2,h3,h4,h5⟩
theorem FT.ps {gl:Nat→AV} {f:FuncId} {fn:Func} {t:TC} {rs:List RS} (hF:FT P f fn t rs) {args:List AV} {r:AV} (hN:args.length≤fn.ntmps) (eE:Qf 0 r)
  (h:∀ c:Cx,c.gh=[]→c.gl=gl→xw P c t (B0 rs r) ⟨jz 0 args,[],0⟩):PS P gl f args r:=by
 have hc:=hF.code
 cases hb:fn.body with
 | none=>rw[hb]at hc;simp at hc
 | some code =>
  rw[hb]at hc
  exact Xun hF.mixed hF.func hb hF.name hc hF.res hN eE h
end
def JL (n es o:Nat):Bk→AV
 | .cells cs=>.isl n ((cs.drop o).take (n * es))
 | _=>.any
def JM (s:FS):Option Nat→Bk
 | some b=>s.H b
 | none=>.free
def JN:AV→Bool→Option Bool
 | .bool b,w=>some (b == w)
 | .dx c (.bool b),w=>some (c && (b == w))
 | _,_=>some false
def B7:AV→Prop
 | .bool _=>True
 | .dx _ (.bool _)=>True
 | _=>False
def JO:Bk→TY→Nat→AV→Prop
 | .cells cs,ty,o,v=>zE ty cs o v
 | _,_,_,_=>False
def FD:Bk→TY→Nat→AV
 | .cells cs,ty,o=>wr ty cs o
 | _,_,_=>.any
def JP (s:FS) (ty:TY):AV→AV
 | .ptr b o=>FD (s.H b) ty o
 | _=>.any
def FE:Bk→TY→Nat→Prop
 | .cells cs,ty,o=>j8 ty cs o
 | _,_,_=>False
def JQ (s:FS) (ty:TY):AV→Prop
 | .ptr b o=>FE (s.H b) ty o
 | _=>False
theorem Xik (n es o:Nat) (cs:List AV):JL n es o (.cells cs)=.isl n ((cs.drop o).take (n * es)):=rfl
theorem Yfr (s:St) (i:Nat):s.fs.T i=look s.t i:=rfl
theorem Yfi (s:St) (i:Nat):s.fs.H i=Qc s.h s.n i:=rfl
theorem Xiw (b:Bool):(b == true)=b:=by cases b<;>rfl
theorem Xd8 (b:Bool):(b == false)=!b:=by cases b<;>rfl
theorem Ydd (b:Bool):(true != b)=!b:=by cases b<;>rfl
theorem Ybw (b:Bool):(false != b)=b:=by cases b<;>rfl
theorem Qxc (b c:Bool):((b && c)=true→b=true)=True:=by cases b<;>simp
theorem Ye0 (b:Bool):(bif b then true else false)=b:=by cases b<;>rfl
theorem Ydt (b c:Bool):(bif b then true else c)=(b || c):=by cases b<;>rfl
theorem Yba (b c:Bool):(bif b then c else false)=(b && c):=by cases b<;>rfl
theorem FF (n j:Nat):Qc [] n j=if j < n then .dead else .free:=rfl
theorem Qyx (i:Nat) (v:Bk) (l:List (Nat × Bk)) (n j:Nat):Qc ((i,v)::l) n j=bif i == j then v else Qc l n j:=rfl
theorem Xvu (j:Nat):look [] j=.any:=rfl
theorem Xe2 (i:Nat) (v:AV) (l:List (Nat × AV)) (j:Nat):look ((i,v)::l) j=bif i == j then v else look l j:=rfl
theorem Qzl (k:IntKind) (n:Int):Qj (.int k n)=(.int k n):=rfl
theorem Xnw (g:Option Bool) (k:IntKind) (n:Int):eR g (.int k n)=True:=rfl
theorem Qwx (k:IntKind) (n:Int):Kc (.int k n)=[.int k n]:=rfl
theorem Xdn (s:FS) (k:IntKind) (n:Int):Yx s (.int k n)=Yj s (.int k n):=rfl
theorem Xie (s:FS) (k:IntKind) (n:Int):Yj s (.int k n)=(.int k n):=rfl
theorem Xiy (s:FS) (k:IntKind) (n:Int):gb s (.int k n)=Yx s (.int k n):=rfl
theorem Xjo (k:IntKind) (n:Int):one (.int k n)=True:=rfl
theorem Xfp (k:IntKind) (n:Int):kr (.int k n)=True:=rfl
theorem Qui (k:IntKind) (n:Int) (r:List AV):Ju ((.int k n)::r)=none:=rfl
theorem Xfi (m:Nat) (k:IntKind) (n:Int):Qf m (.int k n)=True:=by simp only[Qf]
theorem Xq8 (ρ:Nat→Nat) (k:IntKind) (n:Int):aD ρ (.int k n)=(.int k n):=by simp only[aD]
theorem Qty (b:Bool):Qj (.bool b)=(.bool b):=rfl
theorem Xh4 (g:Option Bool) (b:Bool):eR g (.bool b)=True:=rfl
theorem Qt6 (b:Bool):Kc (.bool b)=[.bool b]:=rfl
theorem Qzq (s:FS) (b:Bool):Yx s (.bool b)=Yj s (.bool b):=rfl
theorem Qzz (s:FS) (b:Bool):Yj s (.bool b)=(.bool b):=rfl
theorem Xdo (s:FS) (b:Bool):gb s (.bool b)=Yx s (.bool b):=rfl
theorem Xgt (b:Bool):one (.bool b)=True:=rfl
theorem Xb2 (b:Bool):kr (.bool b)=True:=rfl
theorem Qt9 (b:Bool) (r:List AV):Ju ((.bool b)::r)=none:=rfl
theorem Xa1 (m:Nat) (b:Bool):Qf m (.bool b)=True:=by simp only[Qf]
theorem Xhb (ρ:Nat→Nat) (b:Bool):aD ρ (.bool b)=(.bool b):=by simp only[aD]
theorem Qzy (l:List UInt8):Qj (.str l)=(.str l):=rfl
theorem Xp6 (g:Option Bool) (l:List UInt8):eR g (.str l)=True:=rfl
theorem Qv4 (l:List UInt8):Kc (.str l)=[.str l]:=rfl
theorem Xit (s:FS) (l:List UInt8):Yx s (.str l)=Yj s (.str l):=rfl
theorem Xiv (s:FS) (l:List UInt8):Yj s (.str l)=(.str l):=rfl
theorem Xmh (s:FS) (l:List UInt8):gb s (.str l)=Yx s (.str l):=rfl
theorem Xji (l:List UInt8):one (.str l)=True:=rfl
theorem Xdl (l:List UInt8):kr (.str l)=True:=rfl
theorem Qvr (l:List UInt8) (r:List AV):Ju ((.str l)::r)=none:=rfl
theorem Xhw (m:Nat) (l:List UInt8):Qf m (.str l)=True:=by simp only[Qf]
theorem Xkn (ρ:Nat→Nat) (l:List UInt8):aD ρ (.str l)=(.str l):=by simp only[aD]
theorem Xb8 (cs:List AV):Qj (.agg cs)=(.agg cs):=rfl
theorem Xph (g:Option Bool) (cs:List AV):eR g (.agg cs)=True:=rfl
theorem Xea (s:FS) (cs:List AV):Yj s (.agg cs)=(.agg cs):=rfl
theorem Xnh (s:FS) (cs:List AV):gb s (.agg cs)=Yx s (.agg cs):=rfl
theorem Qvi (cs:List AV) (r:List AV):Ju ((.agg cs)::r)=none:=rfl
theorem Xa3 (cs:List AV):Qj (.aU cs)=(.aU cs):=rfl
theorem Xjl (g:Option Bool) (cs:List AV):eR g (.aU cs)=True:=rfl
theorem Qy7 (cs:List AV):Kc (.aU cs)=[.aU cs]:=rfl
theorem Xi3 (s:FS) (cs:List AV):Yx s (.aU cs)=Yj s (.aU cs):=rfl
theorem Xde (s:FS) (cs:List AV):Yj s (.aU cs)=(.aU cs):=rfl
theorem Qye (cs:List AV) (r:List AV):Ju ((.aU cs)::r)=none:=rfl
theorem Xak (b o:Nat):Qj (.ptr b o)=(.ptr b o):=rfl
theorem Xoe (g:Option Bool) (b o:Nat):eR g (.ptr b o)=True:=rfl
theorem Qxq (b o:Nat):Kc (.ptr b o)=[.ptr b o]:=rfl
theorem Xfj (s:FS) (b o:Nat):Yx s (.ptr b o)=Yj s (.ptr b o):=rfl
theorem Xg9 (s:FS) (b o:Nat):Yj s (.ptr b o)=(.ptr b o):=rfl
theorem Xq7 (s:FS) (b o:Nat):gb s (.ptr b o)=Yx s (.ptr b o):=rfl
theorem Xnv (b o:Nat):one (.ptr b o)=True:=rfl
theorem Xfs (b o:Nat):kr (.ptr b o)=True:=rfl
theorem Xf2 (cs:List AV) (o:Nat):Qj (.xp cs o)=(.xp cs o):=rfl
theorem Xuf (g:Option Bool) (cs:List AV) (o:Nat):eR g (.xp cs o)=True:=rfl
theorem Xa4 (cs:List AV) (o:Nat):Kc (.xp cs o)=[.xp cs o]:=rfl
theorem Xqr (s:FS) (cs:List AV) (o:Nat):Yx s (.xp cs o)=Yj s (.xp cs o):=rfl
theorem Xnx (s:FS) (cs:List AV) (o:Nat):Yj s (.xp cs o)=(.xp cs o):=rfl
theorem Xsv (s:FS) (cs:List AV) (o:Nat):gb s (.xp cs o)=Yx s (.xp cs o):=rfl
theorem Xrp (cs:List AV) (o:Nat):one (.xp cs o)=True:=rfl
theorem Xp9 (cs:List AV) (o:Nat):kr (.xp cs o)=True:=rfl
theorem Qzd (cs:List AV) (o:Nat) (r:List AV):Ju ((.xp cs o)::r)=none:=rfl
theorem Xfl (es b o n c:Nat):Qj (.sl es b o n c)=(.sl es b o n c):=rfl
theorem Xte (g:Option Bool) (es b o n c:Nat):eR g (.sl es b o n c)=True:=rfl
theorem Qze (es b o n c:Nat):Kc (.sl es b o n c)=[.sl es b o n c]:=rfl
theorem Xqc (s:FS) (es b o n c:Nat):Yx s (.sl es b o n c)=Yj s (.sl es b o n c):=rfl
theorem Xt5 (s:FS) (es b o n c:Nat):gb s (.sl es b o n c)=Yx s (.sl es b o n c):=rfl
theorem Xs3 (es b o n c:Nat):one (.sl es b o n c)=True:=rfl
theorem Xk0 (es b o n c:Nat):kr (.sl es b o n c)=True:=rfl
theorem Xbb (n:Nat) (cs:List AV):Qj (.isl n cs)=(.isl n cs):=rfl
theorem Xme (g:Option Bool) (n:Nat) (cs:List AV):eR g (.isl n cs)=True:=rfl
theorem Qwf (n:Nat) (cs:List AV):Kc (.isl n cs)=[.isl n cs]:=rfl
theorem Xfn (s:FS) (n:Nat) (cs:List AV):Yx s (.isl n cs)=Yj s (.isl n cs):=rfl
theorem Xdq (s:FS) (n:Nat) (cs:List AV):Yj s (.isl n cs)=(.isl n cs):=rfl
theorem Xnq (s:FS) (n:Nat) (cs:List AV):gb s (.isl n cs)=Yx s (.isl n cs):=rfl
theorem Xk3 (n:Nat) (cs:List AV):one (.isl n cs)=True:=rfl
theorem Xer (n:Nat) (cs:List AV):kr (.isl n cs)=True:=rfl
theorem Qx6 (n:Nat) (cs:List AV) (r:List AV):Ju ((.isl n cs)::r)=none:=rfl
theorem Qvs:Qj .nils=.nils:=rfl
theorem Xe3 (g:Option Bool):eR g .nils=True:=rfl
theorem Qt2:Kc .nils=[.nils]:=rfl
theorem Xau (s:FS):Yx s .nils=Yj s .nils:=rfl
theorem Xar (s:FS):Yj s .nils=.nils:=rfl
theorem Xdk (s:FS):gb s .nils=Yx s .nils:=rfl
theorem Xhf:one .nils=True:=rfl
theorem Qzm:kr .nils=True:=rfl
theorem Qsy (r:List AV):Ju (.nils::r)=none:=rfl
theorem Xb3 (m:Nat):Qf m .nils=True:=by simp only[Qf]
theorem Xhs (ρ:Nat→Nat):aD ρ .nils=.nils:=by simp only[aD]
theorem Xhp (f:FuncId) (cs:List AV):Qj (.cl f cs)=(.cl f cs):=rfl
theorem Xt0 (g:Option Bool) (f:FuncId) (cs:List AV):eR g (.cl f cs)=True:=rfl
theorem Xax (f:FuncId) (cs:List AV):Kc (.cl f cs)=[.cl f cs]:=rfl
theorem Xnt (s:FS) (f:FuncId) (cs:List AV):Yx s (.cl f cs)=Yj s (.cl f cs):=rfl
theorem Xkd (s:FS) (f:FuncId) (cs:List AV):Yj s (.cl f cs)=(.cl f cs):=rfl
theorem Xrj (s:FS) (f:FuncId) (cs:List AV):gb s (.cl f cs)=Yx s (.cl f cs):=rfl
theorem Xvp (f:FuncId) (cs:List AV):one (.cl f cs)=True:=rfl
theorem Xjg (f:FuncId) (cs:List AV):kr (.cl f cs)=True:=rfl
theorem Qzh (f:FuncId) (cs:List AV) (r:List AV):Ju ((.cl f cs)::r)=none:=rfl
theorem Xh0 (b:Nat):Qj (.mp b)=(.mp b):=rfl
theorem Xw0 (g:Option Bool) (b:Nat):eR g (.mp b)=True:=rfl
theorem Xb7 (b:Nat):Kc (.mp b)=[.mp b]:=rfl
theorem Xjw (s:FS) (b:Nat):Yx s (.mp b)=Yj s (.mp b):=rfl
theorem Xol (s:FS) (b:Nat):Yj s (.mp b)=(.mp b):=rfl
theorem Xtv (s:FS) (b:Nat):gb s (.mp b)=Yx s (.mp b):=rfl
theorem Xw8 (b:Nat):one (.mp b)=True:=rfl
theorem Xkh (b:Nat):kr (.mp b)=True:=rfl
theorem Qz4 (v:Value):Qj (.lit v)=(.lit v):=rfl
theorem Xoh (g:Option Bool) (v:Value):eR g (.lit v)=True:=rfl
theorem Quk (v:Value):Kc (.lit v)=[.lit v]:=rfl
theorem Xet (s:FS) (v:Value):Yx s (.lit v)=Yj s (.lit v):=rfl
theorem Xha (s:FS) (v:Value):Yj s (.lit v)=(.lit v):=rfl
theorem Xns (s:FS) (v:Value):gb s (.lit v)=Yx s (.lit v):=rfl
theorem Quu (v:Value) (r:List AV):Ju ((.lit v)::r)=none:=rfl
theorem Xf4 (m:Nat) (v:Value):Qf m (.lit v)=True:=by simp only[Qf]
theorem Xrb (ρ:Nat→Nat) (v:Value):aD ρ (.lit v)=(.lit v):=by simp only[aD]
theorem Xat:Qj .any=.any:=rfl
theorem Xpy (g:Option Bool):eR g .any=True:=rfl
theorem Qtr:Kc .any=[.any]:=rfl
theorem Xe5 (s:FS):Yx s .any=Yj s .any:=rfl
theorem Xgc (s:FS):Yj s .any=.any:=rfl
theorem Xje (s:FS):gb s .any=Yx s .any:=rfl
theorem Qtn (r:List AV):Ju (.any::r)=none:=rfl
theorem Xez (m:Nat):Qf m .any=True:=by simp only[Qf]
theorem Xn8 (ρ:Nat→Nat):aD ρ .any=.any:=by simp only[aD]
theorem Qys (b:Bool) (v:AV):Qj (.dx b v)=v:=rfl
theorem Xqx (g:Option Bool) (b:Bool) (v:AV):eR g (.dx b v)=ob g (b=true):=rfl
theorem Qx9 (cs:List AV):Kc (.agg cs)=cs:=rfl
theorem Xm3 (s:FS) (es b o n c:Nat):Yj s (.sl es b o n c)=JL n es o (s.H b):=by simp only[Yj,JL]<;>(generalize s.H b=x;cases x<;>rfl)
theorem Xff (s:FS) (cs:List AV):Yx s (.agg cs)=.agg (cs.map (Yj s)):=rfl
theorem Xpp (s:FS) (cs:List AV):gb s (.aU cs)=.aU (cs.map (Yx s)):=rfl
theorem Xeg (cs:List AV):kr (.agg cs)=True:=rfl
theorem Xec:one (.lit (.pointer none))=True:=by simp[one,Value.oneCell']
theorem Xe1:one (.lit (.map none))=True:=by simp[one,Value.oneCell']
theorem Qu8 (b o:Nat) (r:List AV):Ju (.ptr b o::r)=some b:=rfl
theorem Qzp (es b o n c:Nat) (r:List AV):Ju (.sl es b o n c::r)=some b:=rfl
theorem Xa2 (b:Nat) (r:List AV):Ju (.mp b::r)=some b:=rfl
theorem Qwm:Ju []=none:=rfl
theorem Xgm (s:FS) (l:List AV):qe s l=JM s (Ju l):=by simp only[qe];generalize Ju l=x;cases x<;>rfl
theorem Qyt (s:FS) (b:Nat):JM s (some b)=s.H b:=rfl
theorem Qz5 (s:FS):JM s none=.free:=rfl
theorem Xnf (k:IntKind) (n:Int):bB (.int k n)=n:=rfl
theorem Xel (b:Bool):eN (.bool b)=b:=rfl
theorem Xl7 (l:List UInt8):cM (.str l)=l:=rfl
theorem Xnk (k:IntKind) (n:Int):b6 k (.int k n)=True:=by simp[b6]
theorem Xma (k:IntKind) (n:Int):fM (.int k n)=True:=by simp[fM]
theorem Xh1 (b:Bool):ff (.bool b)=True:=by simp[ff]
theorem Xq9 (l:List UInt8):fE (.str l)=True:=by simp[fE]
theorem Xqg (p:Prop):ob none p=p:=rfl
theorem Xjh (b:Bool) (p:Prop):ob (some b) p=(b=true→p):=rfl
theorem Xqy (v:AV):cw none v=v:=rfl
theorem Xox (b:Bool) (v:AV):cw (some b) v=.dx b v:=rfl
theorem Xj3 (s:FS):gB s none=none:=rfl
theorem Xoy (s:FS) (t:Nat) (w:Bool):gB s (some (t,w))=JN (s.T t) w:=by simp only[gB];generalize s.T t=x;rcases x with _|⟨_,y⟩|_|_|_|_|_|_|_|_|_|_|_|_|_<;>first|rfl|(cases y<;>rfl)
theorem Xep (b w:Bool):JN (.bool b) w=some (b == w):=rfl
theorem Xky (c b w:Bool):JN (.dx c (.bool b)) w=some (c && (b == w)):=rfl
theorem Xgv (s:FS):fx s none=True:=by simp[fx]
theorem Xg4 (s:FS) (t:Nat) (w:Bool):fx s (some (t,w))=B7 (s.T t):=by simp only[fx];generalize s.T t=x;rcases x with _|⟨_,y⟩|_|_|_|_|_|_|_|_|_|_|_|_|_<;>first|rfl|(cases y<;>rfl)
theorem Qz1 (b:Bool):B7 (.bool b)=True:=by simp[B7]
theorem Xft (c b:Bool):B7 (.dx c (.bool b))=True:=by simp[B7]
theorem Xli (k:IntKind) (v:AV):wP (.int k) v=.int k (bB v):=rfl
theorem Xfo (v:AV):wP .bool v=.bool (eN v):=rfl
theorem Xqa (v:AV):wP .str v=.str (cM v):=rfl
theorem Xpo (v:AV):wP .ref v=v:=rfl
theorem Xot (k:IntKind) (v:AV):tg (.int k) v=b6 k v:=rfl
theorem Xdy (v:AV):tg .bool v=ff v:=rfl
theorem Xpa (v:AV):tg .str v=fE v:=rfl
theorem Xj0 (v:AV):tg .ref v=True:=rfl
theorem Xzn (k:SK) (cs:List AV) (o:Nat):wr (.sc k) cs o=wP k (cs.getD o .any):=rfl
theorem Xy6 (n:Nat) (cs:List AV) (o:Nat):wr (.ag n) cs o=.agg ((cs.drop o).take n):=rfl
theorem Xpu (k:SK) (cs:List AV) (o:Nat):j8 (.sc k) cs o=(o < cs.length∧tg k (cs.getD o .any)):=rfl
theorem Xm1 (n:Nat) (cs:List AV) (o:Nat):j8 (.ag n) cs o=(o + n≤cs.length):=rfl
theorem Xmp (k:SK) (cs:List AV) (o:Nat) (v:AV):ti (.sc k) cs o v=cs.set o v:=rfl
theorem Xmm (n:Nat) (cs:List AV) (o:Nat) (vs:List AV):ti (.ag n) cs o (.agg vs)=Yp cs o vs:=rfl
theorem Xiu (k:SK) (cs:List AV) (o:Nat) (v:AV):zE (.sc k) cs o v=(o < cs.length∧one v):=rfl
theorem Xeo (n:Nat) (cs:List AV) (o:Nat) (vs:List AV):zE (.ag n) cs o (.agg vs)=(vs.length=n∧o + n≤cs.length):=rfl
theorem Xek (s:FS) (ty:TY) (b o:Nat) (v:AV):tv s ty (.ptr b o) v=JO (s.H b) ty o v:=by simp only[tv,JO];generalize s.H b=x;cases x<;>rfl
theorem Qt4 (cs:List AV) (ty:TY) (o:Nat) (v:AV):JO (.cells cs) ty o v=zE ty cs o v:=rfl
theorem Xh8 (b o:Nat):jk (.ptr b o)=b:=rfl
theorem Xfq (b o:Nat):vj (.ptr b o)=o:=rfl
theorem Qr4 (cs:List AV):Yu (.cells cs)=cs:=rfl
theorem Yeb (s:FS) (i:Nat):rv s (.t i)=s.T i:=rfl
theorem Xjb (s:FS) (a:Nat) (ty:TY):rv s (.cell a ty)=JP s ty (s.T a):=by simp only[rv];generalize s.T a=x;cases x<;>first|rfl|(simp only[JP,FD];generalize s.H _=y;cases y<;>rfl)
theorem Xlu (s:FS) (ty:TY) (b o:Nat):JP s ty (.ptr b o)=FD (s.H b) ty o:=rfl
theorem Qzt (cs:List AV) (ty:TY) (o:Nat):FD (.cells cs) ty o=wr ty cs o:=rfl
theorem Xhu (v:AV):aD (rl []) v=v:=py _ (fun _=>rfl) v
theorem QF (l:List AV):ay (rl []) l=l:=by rw[Yk];exact (List.map_congr_left fun x _=>py _ (fun _=>rfl) x).trans (List.map_id l)
theorem Xay (cs:List AV):Qx (rl []) (.cells cs)=.cells cs:=by simp only[Qx,QF]
theorem Xsw (b:Nat):rl [] b=b:=rfl
theorem Xkk (i j:Nat) (r:List (Nat × Nat)) (b:Nat):rl ((i,j)::r) b=bif i == b then j else rl r b:=rfl
theorem Xoi (ρ:Nat→Nat) (cs:List AV):aD ρ (.agg cs)=.agg (ay ρ cs):=by simp only[aD]
theorem Xne (ρ:Nat→Nat) (cs:List AV):aD ρ (.aU cs)=.aU (ay ρ cs):=by simp only[aD]
theorem Xu3 (ρ:Nat→Nat) (cs:List AV) (o:Nat):aD ρ (.xp cs o)=.xp (ay ρ cs) o:=by simp only[aD]
theorem Xmi (ρ:Nat→Nat) (n:Nat) (cs:List AV):aD ρ (.isl n cs)=.isl n (ay ρ cs):=by simp only[aD]
theorem Xr1 (ρ:Nat→Nat) (b o:Nat):aD ρ (.ptr b o)=.ptr (ρ b) o:=by simp only[aD]
theorem Xvx (ρ:Nat→Nat) (es b o n c:Nat):aD ρ (.sl es b o n c)=.sl es (ρ b) o n c:=by simp only[aD]
theorem Xrv (ρ:Nat→Nat) (b:Nat):aD ρ (.mp b)=.mp (ρ b):=by simp only[aD]
theorem Xwh (ρ:Nat→Nat) (f:FuncId) (cs:List AV):aD ρ (.cl f cs)=.cl f (ay ρ cs):=by simp only[aD]
theorem Xhv (m:Nat) (cs:List AV):Qf m (.agg cs)=ah m cs:=by simp only[Qf]
theorem Xgd (m:Nat) (cs:List AV):Qf m (.aU cs)=ah m cs:=by simp only[Qf]
theorem Xpt (m o:Nat) (cs:List AV):Qf m (.xp cs o)=ah m cs:=by simp only[Qf]
theorem Xhe (m n:Nat) (cs:List AV):Qf m (.isl n cs)=ah m cs:=by simp only[Qf]
theorem Xp0 (m f:Nat) (cs:List AV):Qf m (.cl f cs)=ah m cs:=by simp only[Qf]
theorem Xgx (m b o:Nat):Qf m (.ptr b o)=(b < m):=by simp only[Qf]
theorem Xms (m es b o n c:Nat):Qf m (.sl es b o n c)=(b < m):=by simp only[Qf]
theorem Xl3 (m b:Nat):Qf m (.mp b)=(b < m):=by simp only[Qf]
theorem Xgf (s:FS):Wq s []=True:=by simp[Wq]
theorem Xrw (s:FS) (i:Nat) (r:List RS):Wq s (.t i::r)=Wq s r:=rfl
theorem Xa5 (s:FS) (a:Nat) (ty:TY) (r:List RS):Wq s (.cell a ty::r)=(JQ s ty (s.T a)∧Wq s r):=by simp only[Wq];congr 1;generalize s.T a=x;cases x<;>first|rfl|(simp only[JQ,FE];generalize s.H _=y;cases y<;>rfl)
theorem Qyw (s:FS) (ty:TY) (b o:Nat):JQ s ty (.ptr b o)=FE (s.H b) ty o:=rfl
theorem Qtb (cs:List AV) (ty:TY) (o:Nat):FE (.cells cs) ty o=j8 ty cs o:=rfl
theorem Xmw (s:FS) (x:RS):ga s [x]=rv s x:=rfl
theorem Xo1 (s:FS) (x y:RS) (l:List RS):ga s (x::y::l)=.aU (rv s x::rv s y::l.map (rv s)):=rfl
theorem Xa6 (rs:List RS) (r:AV) (s:St):B0 rs r .ret s=(Wq s.fs rs∧gb s.fs (ga s.fs rs)=r):=rfl
theorem Qqd (rs:List RS) (r:AV) (s:St):B0 rs r .normal s=(Wq s.fs rs∧gb s.fs (ga s.fs rs)=r):=rfl
theorem Qyl (rs:List RS) (r:AV) (i:Nat) (s:St):B0 rs r (.exit i) s=False:=rfl
theorem Qq2 (i:Nat) (Q:EX→St→Prop) (s:St):zI i Q .normal s=Q .normal s:=rfl
theorem Qu0 (i:Nat) (Q:EX→St→Prop) (s:St):zI i Q .ret s=Q .ret s:=rfl
theorem Qt3 (i j:Nat) (Q:EX→St→Prop) (s:St):zI i Q (.exit j) s=if j=i then Q .normal s else Q (.exit j) s:=rfl
theorem Qq8 {σ:Type} (I:σ→Prop) (da:σ→St) (μ:σ→Nat) (x:σ) (Q:EX→St→Prop) (s:St):FB I da μ x Q .normal s=∃ y,I y∧(∃ ρ,Sub (rl ρ) s (da y))∧μ y < μ x:=rfl
theorem Xao {σ:Type} (I:σ→Prop) (da:σ→St) (μ:σ→Nat) (x:σ) (Q:EX→St→Prop) (s:St):FB I da μ x Q .ret s=Q .ret s:=rfl
theorem Qvf {σ:Type} (I:σ→Prop) (da:σ→St) (μ:σ→Nat) (x:σ) (Q:EX→St→Prop) (i:Nat) (s:St):FB I da μ x Q (.exit i) s=Q (.exit i) s:=rfl
theorem Yas (gl:Nat→AV) (s:FS) (i:Nat):aZ gl s (.t i)=s.T i:=rfl
theorem Xyf (gl:Nat→AV) (s:FS) (v:AV):aZ gl s (.c v)=v:=rfl
theorem Xrs (gl:Nat→AV) (s:FS) (i:Nat):aZ gl s (.gl i)=gl i:=rfl
theorem Xqo (gl:Nat→AV) (s:FS):aF gl s []=[]:=rfl
theorem Xid (gl:Nat→AV) (s:FS) (x:TV) (r:List TV):aF gl s (x::r)=aZ gl s x::aF gl s r:=rfl
theorem Xaw (c:Option Bool) (x y z:AV):Ji c .pick [x,y,z]=(eR c x∧ob c (eN (Qj x)=true→eR none y)∧ob c (eN (Qj x)=false→eR none z)):=rfl
theorem Xks (c:Option Bool) (l:List AV):Ji c .mv l=Qt c l:=rfl
theorem Xg3 (c:Option Bool) (l:List AV):Ji c .not l=Qt c l:=rfl
theorem Xng (c:Option Bool) (o:BinOp) (k:IntKind) (l:List AV):Ji c (.ar o k) l=Qt c l:=rfl
theorem Xjy (c:Option Bool) (o:BinOp) (k:IntKind) (l:List AV):Ji c (.dv o k) l=Qt c l:=rfl
theorem Xjp (c:Option Bool) (o:BinOp) (k:IntKind) (l:List AV):Ji c (.bt o k) l=Qt c l:=rfl
theorem Xpg (c:Option Bool) (o:BinOp) (k:IntKind) (l:List AV):Ji c (.sh o k) l=Qt c l:=rfl
theorem Xrc (c:Option Bool) (o:BinOp) (k:IntKind) (l:List AV):Ji c (.cm o k) l=Qt c l:=rfl
theorem Xqp (c:Option Bool) (ne:Bool) (l:List AV):Ji c (.cB ne) l=Qt c l:=rfl
theorem Xju (c:Option Bool) (ne:Bool) (l:List AV):Ji c (.cS ne) l=Qt c l:=rfl
theorem Xh3 (c:Option Bool) (l:List AV):Ji c .cat l=Qt c l:=rfl
theorem Xjk (c:Option Bool) (k:IntKind) (l:List AV):Ji c (.cv k) l=Qt c l:=rfl
theorem Xir (c:Option Bool) (ty:TY) (off:Nat) (l:List AV):Ji c (.zn ty off) l=Qt c l:=rfl
theorem Xgh (c:Option Bool) (es len:Nat) (ty:TY) (l:List AV):Ji c (.vg es len ty) l=Qt c l:=rfl
theorem Xhh (c:Option Bool) (l:List AV):Ji c .zo l=Qt c l:=rfl
theorem Xad (c:Option Bool) (off:Nat) (l:List AV):Ji c (.jv off) l=Qt c l:=rfl
theorem Qtm (c:Option Bool) (len es:Nat) (l:List AV):Ji c (.ft len es) l=Qt c l:=rfl
theorem Qxi (c:Option Bool) (es:Nat) (l:List AV):Ji c (.fu es) l=Qt c l:=rfl
theorem Xll (c:Option Bool) (ty:TY) (l:List AV):Ji c (.ld ty) l=Qt c l:=rfl
theorem Qzk (c:Option Bool) (l:List AV):Ji c .nZ l=Qt c l:=rfl
theorem Xaa (c:Option Bool) (l:List AV):Ji c .fX l=Qt c l:=rfl
theorem Qz6 (c:Option Bool) (l:List AV):Ji c .n7 l=Qt c l:=rfl
theorem Xev (c:Option Bool) (lo hi:Bool) (l:List AV):Ji c (.zq lo hi) l=Qt c l:=rfl
theorem Xeh (c:Option Bool) (es:Nat) (lo hi:Bool) (l:List AV):Ji c (.n8 es lo hi) l=Qt c l:=rfl
theorem Xil (c:Option Bool) (i:Nat) (l:List AV):Ji c (.ext i) l=Qt c l:=rfl
theorem Qw4 (c:Option Bool) (l:List AV):Ji c .fY l=Qt c l:=rfl
theorem Xdd (c:Option Bool) (z:List AV) (ps:List (Nat × Nat)) (l:List AV):Ji c (.wR z ps) l=Qt c l:=rfl
theorem Xin (c:Option Bool) (f:FuncId) (l:List AV):Ji c (.zr f) l=Qt c l:=rfl
theorem Xpf (c:Option Bool) (k:IntKind) (l:List AV):Ji c (.mn k) l=Qt c l:=rfl
theorem Xkx (c:Option Bool) (k:IntKind) (l:List AV):Ji c (.mx k) l=Qt c l:=rfl
theorem Qz0 (c:Option Bool) (ne:Bool) (l:List AV):Ji c (.eT ne) l=Qt c l:=rfl
theorem Xf6 (c:Option Bool) (l:List AV):Ji c .mZ l=Qt c l:=rfl
theorem Xy9 (x:AV) (bk:Bk):qv .mv [x] bk=x:=rfl
theorem Xxy (x:AV) (bk:Bk):qp .mv [x] bk=True:=by simp[qp]
theorem Xu2 (x:AV) (bk:Bk):qv .not [x] bk=.bool (!eN x):=rfl
theorem Xvb (x:AV) (bk:Bk):qp .not [x] bk=ff x:=rfl
theorem Xpv (c x y:AV) (bk:Bk):qv .pick [c,x,y] bk=.bool (bif eN c then eN x else eN y):=rfl
theorem Xk6 (c x y:AV) (bk:Bk):qp .pick [c,x,y] bk=(ff c∧(eN c=true→ff x)∧(eN c=false→ff y)):=rfl
theorem Xyz (o:BinOp) (k:IntKind) (x y:AV) (bk:Bk):qv (.ar o k) [x,y] bk=.int k (k.wrap (wQ o (bB x) (bB y))):=rfl
theorem Yag (o:BinOp) (k:IntKind) (x y:AV) (bk:Bk):qp (.ar o k) [x,y] bk=(b6 k x∧b6 k y):=rfl
theorem Xzz (o:BinOp) (k:IntKind) (x y:AV) (bk:Bk):qv (.dv o k) [x,y] bk=.int k (zh o k (bB x) (bB y)):=rfl
theorem Xxu (o:BinOp) (k:IntKind) (x y:AV) (bk:Bk):qp (.dv o k) [x,y] bk=(b6 k x∧b6 k y∧bB y≠0):=rfl
theorem Ybj (o:BinOp) (k:IntKind) (x y:AV) (bk:Bk):qv (.bt o k) [x,y] bk=.int k (bits o k (bB x) (bB y)):=rfl
theorem Ya3 (o:BinOp) (k:IntKind) (x y:AV) (bk:Bk):qp (.bt o k) [x,y] bk=(b6 k x∧b6 k y):=rfl
theorem Ya5 (o:BinOp) (k:IntKind) (x y:AV) (bk:Bk):qv (.sh o k) [x,y] bk=.int k (zj o k (bB x) (bB y)):=rfl
theorem Yab (o:BinOp) (k:IntKind) (x y:AV) (bk:Bk):qp (.sh o k) [x,y] bk=(b6 k x∧fM y∧0≤bB y):=rfl
theorem Ybe (o:BinOp) (k:IntKind) (x y:AV) (bk:Bk):qv (.cm o k) [x,y] bk=.bool (rT o (bB x) (bB y)):=rfl
theorem Xze (o:BinOp) (k:IntKind) (x y:AV) (bk:Bk):qp (.cm o k) [x,y] bk=(b6 k x∧b6 k y):=rfl
theorem Xzi (ne:Bool) (x y:AV) (bk:Bk):qv (.cB ne) [x,y] bk=.bool (ne != (eN x == eN y)):=rfl
theorem Yar (ne:Bool) (x y:AV) (bk:Bk):qp (.cB ne) [x,y] bk=(ff x∧ff y):=rfl
theorem Yae (ne:Bool) (x y:AV) (bk:Bk):qv (.cS ne) [x,y] bk=.bool (ne != (cM x == cM y)):=rfl
theorem Yb7 (ne:Bool) (x y:AV) (bk:Bk):qp (.cS ne) [x,y] bk=(fE x∧fE y):=rfl
theorem Xva (x y:AV) (bk:Bk):qv .cat [x,y] bk=.str (cM x++cM y):=rfl
theorem Xtd (x y:AV) (bk:Bk):qp .cat [x,y] bk=(fE x∧fE y∧(cM x).length + (cM y).length≤9223372036854775807):=rfl
theorem Xzd (k:IntKind) (x:AV) (bk:Bk):qv (.cv k) [x] bk=.int k (k.wrap (bB x)):=rfl
theorem Xy7 (k:IntKind) (x:AV) (bk:Bk):qp (.cv k) [x] bk=fM x:=rfl
theorem Xvw (ty:TY) (off:Nat) (cs:List AV) (bk:Bk):qv (.zn ty off) [.agg cs] bk=wr ty cs off:=rfl
theorem Xtn (ty:TY) (off:Nat) (cs:List AV) (bk:Bk):qp (.zn ty off) [.agg cs] bk=j8 ty cs off:=rfl
theorem Xwo (es len:Nat) (ty:TY) (cs:List AV) (i:AV) (bk:Bk):qv (.vg es len ty) [.agg cs,i] bk=wr ty cs ((bB i).toNat * es):=rfl
theorem Xtz (es len:Nat) (ty:TY) (cs:List AV) (i:AV) (bk:Bk):qp (.vg es len ty) [.agg cs,i] bk=(fM i∧0≤bB i∧bB i < len∧j8 ty cs ((bB i).toNat * es)):=rfl
theorem Xw3 (x i:AV) (bk:Bk):qv .zo [x,i] bk=.int .u8 ((cM x).getD (bB i).toNat 0).toNat:=rfl
theorem Xwg (x i:AV) (bk:Bk):qp .zo [x,i] bk=(fE x∧fM i∧0≤bB i∧bB i < (cM x).length):=rfl
theorem Xo2 (o b off:Nat) (bk:Bk):qv (.jv o) [.ptr b off] bk=.ptr b (off + o):=rfl
theorem Xjn (o b off:Nat) (bk:Bk):qp (.jv o) [.ptr b off] bk=True:=by simp[qp]
theorem Xfc (o off:Nat) (cs:List AV) (bk:Bk):qv (.jv o) [.xp cs off] bk=.xp cs (off + o):=rfl
theorem Xdg (o off:Nat) (cs:List AV) (bk:Bk):qp (.jv o) [.xp cs off] bk=True:=by simp[qp]
theorem Xi0 (len es b off:Nat) (i:AV) (bk:Bk):qv (.ft len es) [.ptr b off,i] bk=.ptr b (off + (bB i).toNat * es):=rfl
theorem Xg1 (len es b off:Nat) (i:AV) (bk:Bk):qp (.ft len es) [.ptr b off,i] bk=(fM i∧0≤bB i∧bB i < len):=rfl
theorem Xba (len es off:Nat) (cs:List AV) (i:AV) (bk:Bk):qv (.ft len es) [.xp cs off,i] bk=.xp cs (off + (bB i).toNat * es):=rfl
theorem Xaz (len es off:Nat) (cs:List AV) (i:AV) (bk:Bk):qp (.ft len es) [.xp cs off,i] bk=(fM i∧0≤bB i∧bB i < len):=rfl
theorem Xew (es es2 b off n c:Nat) (i:AV) (bk:Bk):qv (.fu es) [.sl es2 b off n c,i] bk=.ptr b (off + (bB i).toNat * es):=rfl
theorem Xf3 (es es2 b off n c:Nat) (i:AV) (bk:Bk):qp (.fu es) [.sl es2 b off n c,i] bk=(es2=es∧fM i∧0≤bB i∧bB i < n):=rfl
theorem Xb6 (es n:Nat) (cs:List AV) (i:AV) (bk:Bk):qv (.fu es) [.isl n cs,i] bk=.xp cs ((bB i).toNat * es):=rfl
theorem Xas (es n:Nat) (cs:List AV) (i:AV) (bk:Bk):qp (.fu es) [.isl n cs,i] bk=(fM i∧0≤bB i∧bB i < n∧(bB i).toNat * es < cs.length):=rfl
theorem Xyr (ty:TY) (b off:Nat) (cs:List AV):qv (.ld ty) [.ptr b off] (.cells cs)=wr ty cs off:=rfl
theorem Yaa (ty:TY) (b off:Nat) (cs:List AV):qp (.ld ty) [.ptr b off] (.cells cs)=j8 ty cs off:=rfl
theorem Xwk (ty:TY) (off:Nat) (cs:List AV) (bk:Bk):qv (.ld ty) [.xp cs off] bk=wr ty cs off:=rfl
theorem Xtt (ty:TY) (off:Nat) (cs:List AV) (bk:Bk):qp (.ld ty) [.xp cs off] bk=j8 ty cs off:=rfl
theorem Xjc (x:AV) (bk:Bk):qv .nZ [x] bk=.int .i64 (cM x).length:=rfl
theorem Xr5 (x:AV) (bk:Bk):qp .nZ [x] bk=fE x:=rfl
theorem Xdv (n:Nat) (cs:List AV) (bk:Bk):qv .fX [.isl n cs] bk=.int .i64 n:=rfl
theorem Xhd (n:Nat) (cs:List AV) (bk:Bk):qp .fX [.isl n cs] bk=True:=by simp[qp]
theorem Xhj (es b o n c:Nat) (bk:Bk):qv .fX [.sl es b o n c] bk=.int .i64 n:=rfl
theorem Xdr (es b o n c:Nat) (bk:Bk):qp .fX [.sl es b o n c] bk=True:=by simp[qp]
theorem Xgq (bk:Bk):qv .fX [.nils] bk=.int .i64 0:=rfl
theorem Xia (bk:Bk):qp .fX [.nils] bk=True:=by simp[qp]
theorem Xla (b:Nat) (kvs:List (AV × AV)) (dn:Bool):qv .n7 [.mp b] (.aC kvs dn)=.int .i64 kvs.length:=rfl
theorem Xq4 (b:Nat) (kvs:List (AV × AV)) (dn:Bool):qp .n7 [.mp b] (.aC kvs dn)=True:=by simp[qp]
theorem Xv6 (lo hi:Bool) (x:AV) (r:List AV) (bk:Bk):qv (.zq lo hi) (x::r) bk=.str (((cM x).drop (Xo lo r).toNat).take ((Zw lo hi (cM x).length r).toNat - (Xo lo r).toNat)):=rfl
theorem Xts (lo hi:Bool) (x:AV) (r:List AV) (bk:Bk):qp (.zq lo hi) (x::r) bk=(fE x∧lN lo hi r∧0≤Xo lo r∧Xo lo r≤Zw lo hi (cM x).length r∧Zw lo hi (cM x).length r≤(cM x).length):=rfl
theorem Xlk (es n:Nat) (cs:List AV) (lo hi:Bool) (r:List AV) (bk:Bk):qv (.n8 es lo hi) (.isl n cs::r) bk=.isl ((Zw lo hi n r).toNat - (Xo lo r).toNat) ((cs.drop ((Xo lo r).toNat * es)).take (((Zw lo hi n r).toNat - (Xo lo r).toNat) * es)):=rfl
theorem Xm0 (es n:Nat) (cs:List AV) (lo hi:Bool) (r:List AV) (bk:Bk):qp (.n8 es lo hi) (.isl n cs::r) bk=(lN lo hi r∧0≤Xo lo r∧Xo lo r≤Zw lo hi n r∧Zw lo hi n r≤n∧cs.length≤n * es):=rfl
theorem Xn3 {es es2 b off n c:Nat} {lo hi:Bool} {r:List AV} {bk:Bk} (h:Xo lo r < c):qv (.n8 es lo hi) (.sl es2 b off n c::r) bk=.sl es b (off + (Xo lo r).toNat * es) ((Zw lo hi n r).toNat - (Xo lo r).toNat) (c - (Xo lo r).toNat):=if_pos h
theorem Xn9 {es es2 b off n c:Nat} {lo hi:Bool} {r:List AV} {bk:Bk} (h:¬ Xo lo r < c):qv (.n8 es lo hi) (.sl es2 b off n c::r) bk=.isl 0 []:=if_neg h
theorem Xl6 (es es2 b off n c:Nat) (lo hi:Bool) (r:List AV) (bk:Bk):qp (.n8 es lo hi) (.sl es2 b off n c::r) bk=(es2=es∧lN lo hi r∧0≤Xo lo r∧Xo lo r≤Zw lo hi n r∧Zw lo hi n r≤c):=rfl
theorem Xua (i:Nat) (vs:List AV) (bk:Bk):qv (.ext i) [.aU vs] bk=vs.getD i .any:=rfl
theorem Xsj (i:Nat) (vs:List AV) (bk:Bk):qp (.ext i) [.aU vs] bk=(i < vs.length):=rfl
theorem Xfe (b o:Nat) (bk:Bk):qv .fY [.ptr b o] bk=.ptr b o:=rfl
theorem Xf0 (b o:Nat) (bk:Bk):qp .fY [.ptr b o] bk=True:=by simp[qp]
theorem Xal (cs:List AV) (o:Nat) (bk:Bk):qv .fY [.xp cs o] bk=.xp cs o:=rfl
theorem Xah (cs:List AV) (o:Nat) (bk:Bk):qp .fY [.xp cs o] bk=True:=by simp[qp]
theorem Xvh (z:List AV) (ps:List (Nat × Nat)) (vs:List AV) (bk:Bk):qv (.wR z ps) vs bk=.agg (Zv z ps vs):=by rcases vs with _|⟨a,_|⟨b,_|⟨c,_|⟨d,r⟩⟩⟩⟩<;>rfl
theorem Xup (z:List AV) (ps:List (Nat × Nat)) (vs:List AV) (bk:Bk):qp (.wR z ps) vs bk=Yv z.length ps vs:=by rcases vs with _|⟨a,_|⟨b,_|⟨c,_|⟨d,r⟩⟩⟩⟩<;>rfl
theorem Xug (f:FuncId) (vs:List AV) (bk:Bk):qv (.zr f) vs bk=.cl f vs:=by rcases vs with _|⟨a,_|⟨b,_|⟨c,_|⟨d,r⟩⟩⟩⟩<;>rfl
theorem Xu0 (f:FuncId) (vs:List AV) (bk:Bk):qp (.zr f) vs bk=True:=by rcases vs with _|⟨a,_|⟨b,_|⟨c,_|⟨d,r⟩⟩⟩⟩<;>simp[qp]
theorem Xxp (k:IntKind) (x y:AV) (bk:Bk):qv (.mn k) [x,y] bk=.int k (if bB y < bB x then bB y else bB x):=rfl
theorem Xxn (k:IntKind) (x y:AV) (bk:Bk):qp (.mn k) [x,y] bk=(b6 k x∧b6 k y):=rfl
theorem Yao (k:IntKind) (x y:AV) (bk:Bk):qv (.mx k) [x,y] bk=.int k (if bB y > bB x then bB y else bB x):=rfl
theorem Xym (k:IntKind) (x y:AV) (bk:Bk):qp (.mx k) [x,y] bk=(b6 k x∧b6 k y):=rfl
theorem Xdi (ne:Bool) (bk:Bk):qv (.eT ne) [.lit (.pointer none)] bk=.bool (!ne):=rfl
theorem Xdf (ne:Bool) (bk:Bk):qp (.eT ne) [.lit (.pointer none)] bk=True:=by simp[qp]
theorem Xh5 (ne:Bool) (b o:Nat) (bk:Bk):qv (.eT ne) [.ptr b o] bk=.bool ne:=rfl
theorem Xht (ne:Bool) (b o:Nat) (bk:Bk):qp (.eT ne) [.ptr b o] bk=True:=by simp[qp]
theorem Xge (ne:Bool) (cs:List AV) (o:Nat) (bk:Bk):qv (.eT ne) [.xp cs o] bk=.bool ne:=rfl
theorem Xg6 (ne:Bool) (cs:List AV) (o:Nat) (bk:Bk):qp (.eT ne) [.xp cs o] bk=True:=by simp[qp]
theorem Xn7 (bk:Bk):qv .mZ [.nils] bk=.str []:=rfl
theorem Xqz (bk:Bk):qp .mZ [.nils] bk=True:=by simp[qp]
theorem Xmn (n:Nat) (cs:List AV) (bk:Bk):qv .mZ [.isl n cs] bk=.str (toB (cs.take n)):=rfl
theorem Xna (n:Nat) (cs:List AV) (bk:Bk):qp .mZ [.isl n cs] bk=(n≤cs.length∧∀ v ∈ cs.take n,b6 .u8 v):=rfl
theorem Xkv (es b off n c:Nat) (cs:List AV):qv .mZ [.sl es b off n c] (.cells cs)=.str (toB ((cs.drop off).take n)):=rfl
theorem Xpd (es b off n c:Nat) (cs:List AV):qp .mZ [.sl es b off n c] (.cells cs)=(es=1∧off + n≤cs.length∧∀ v ∈ (cs.drop off).take n,b6 .u8 v):=rfl
theorem Xlc (x y:Int):wQ .add x y=x + y:=rfl
theorem Xk2 (x y:Int):wQ .sub x y=x - y:=rfl
theorem Xn0 (x y:Int):wQ .mul x y=x * y:=rfl
theorem Xm2 (x y:Int):rT .eql x y=(x == y):=rfl
theorem Xor (x y:Int):rT .neq x y=(x != y):=rfl
theorem Xpi (x y:Int):rT .lss x y=decide (x < y):=rfl
theorem Xq5 (x y:Int):rT .leq x y=decide (x≤y):=rfl
theorem Xoa (x y:Int):rT .gtr x y=decide (y < x):=rfl
theorem Xl2 (x y:Int):rT .geq x y=decide (y≤x):=rfl
theorem Xq0 (k:IntKind) (x y:Int):zh .quo k x y=k.wrap (x.tdiv y):=rfl
theorem Xoo (k:IntKind) (x y:Int):zh .rem k x y=x.tmod y:=rfl
theorem Xjd (k:IntKind) (x y:Int):zj .shl k x y=k.wrap (x * 2 ^ min y.toNat k.bits):=rfl
theorem Xow (k:IntKind) (x y:Int):zj .shr k x y=x.fdiv (2 ^ min y.toNat k.bits):=rfl
theorem Xm4 (r:List AV):Xo false r=0:=by cases r<;>rfl
theorem Xee (x:AV) (r:List AV):Xo true (x::r)=bB x:=rfl
theorem Xlh (lo:Bool) (n:Nat) (r:List AV):Zw lo false n r=n:=by rcases r with _|⟨a,_|⟨b,_|⟨d,r⟩⟩⟩<;>simp[Zw]
theorem Xfk (n:Nat) (x:AV):Zw false true n [x]=bB x:=rfl
theorem Xdp (n:Nat) (x y:AV):Zw true true n [x,y]=bB y:=rfl
theorem Xhk:lN false false []=True:=by simp[lN]
theorem Xm5 (x:AV):lN true false [x]=b6 .i64 x:=by simp[lN]
theorem Xp1 (x:AV):lN false true [x]=b6 .i64 x:=by simp[lN]
theorem Xfm (x y:AV):lN true true [x,y]=(b6 .i64 x∧b6 .i64 y):=by simp[lN]
theorem Xio (z:List AV) (q m:Nat) (ps:List (Nat × Nat)) (r:List AV) (k:IntKind) (n:Int):Zv z ((q,m)::ps) ((.int k n)::r)=Zv (z.set q (.int k n)) ps r:=rfl
theorem Qzu (n1 q m:Nat) (ps:List (Nat × Nat)) (r:List AV) (k:IntKind) (n:Int):Yv n1 ((q,m)::ps) ((.int k n)::r)=(one (.int k n)∧m=1∧q < n1∧Yv n1 ps r):=rfl
theorem Xa0 (z:List AV) (q m:Nat) (ps:List (Nat × Nat)) (r:List AV) (b:Bool):Zv z ((q,m)::ps) ((.bool b)::r)=Zv (z.set q (.bool b)) ps r:=rfl
theorem Qtp (n1 q m:Nat) (ps:List (Nat × Nat)) (r:List AV) (b:Bool):Yv n1 ((q,m)::ps) ((.bool b)::r)=(one (.bool b)∧m=1∧q < n1∧Yv n1 ps r):=rfl
theorem Xgo (z:List AV) (q m:Nat) (ps:List (Nat × Nat)) (r:List AV) (l:List UInt8):Zv z ((q,m)::ps) ((.str l)::r)=Zv (z.set q (.str l)) ps r:=rfl
theorem Xa7 (n1 q m:Nat) (ps:List (Nat × Nat)) (r:List AV) (l:List UInt8):Yv n1 ((q,m)::ps) ((.str l)::r)=(one (.str l)∧m=1∧q < n1∧Yv n1 ps r):=rfl
theorem Xfd (z:List AV) (o m:Nat) (ps:List (Nat × Nat)) (cs r:List AV):Zv z ((o,m)::ps) (.agg cs::r)=Zv (Yp z o cs) ps r:=rfl
theorem Xaq (n o m:Nat) (ps:List (Nat × Nat)) (cs r:List AV):Yv n ((o,m)::ps) (.agg cs::r)=(cs.length=m∧o + m≤n∧Yv n ps r):=rfl
theorem Xf5 (z:List AV) (q m:Nat) (ps:List (Nat × Nat)) (r:List AV) (b o:Nat):Zv z ((q,m)::ps) ((.ptr b o)::r)=Zv (z.set q (.ptr b o)) ps r:=rfl
theorem Qzr (n1 q m:Nat) (ps:List (Nat × Nat)) (r:List AV) (b o:Nat):Yv n1 ((q,m)::ps) ((.ptr b o)::r)=(one (.ptr b o)∧m=1∧q < n1∧Yv n1 ps r):=rfl
theorem Xlm (z:List AV) (q m:Nat) (ps:List (Nat × Nat)) (r:List AV) (cs:List AV) (o:Nat):Zv z ((q,m)::ps) ((.xp cs o)::r)=Zv (z.set q (.xp cs o)) ps r:=rfl
theorem Xhr (n1 q m:Nat) (ps:List (Nat × Nat)) (r:List AV) (cs:List AV) (o:Nat):Yv n1 ((q,m)::ps) ((.xp cs o)::r)=(one (.xp cs o)∧m=1∧q < n1∧Yv n1 ps r):=rfl
theorem Xod (z:List AV) (q m:Nat) (ps:List (Nat × Nat)) (r:List AV) (es b o n c:Nat):Zv z ((q,m)::ps) ((.sl es b o n c)::r)=Zv (z.set q (.sl es b o n c)) ps r:=rfl
theorem Xgz (n1 q m:Nat) (ps:List (Nat × Nat)) (r:List AV) (es b o n c:Nat):Yv n1 ((q,m)::ps) ((.sl es b o n c)::r)=(one (.sl es b o n c)∧m=1∧q < n1∧Yv n1 ps r):=rfl
theorem Xda (z:List AV) (q m:Nat) (ps:List (Nat × Nat)) (r:List AV) (n:Nat) (cs:List AV):Zv z ((q,m)::ps) ((.isl n cs)::r)=Zv (z.set q (.isl n cs)) ps r:=rfl
theorem Qzi (n1 q m:Nat) (ps:List (Nat × Nat)) (r:List AV) (n:Nat) (cs:List AV):Yv n1 ((q,m)::ps) ((.isl n cs)::r)=(one (.isl n cs)∧m=1∧q < n1∧Yv n1 ps r):=rfl
theorem Qyz (z:List AV) (q m:Nat) (ps:List (Nat × Nat)) (r:List AV):Zv z ((q,m)::ps) (.nils::r)=Zv (z.set q .nils) ps r:=rfl
theorem Qvu (n1 q m:Nat) (ps:List (Nat × Nat)) (r:List AV):Yv n1 ((q,m)::ps) (.nils::r)=(one .nils∧m=1∧q < n1∧Yv n1 ps r):=rfl
theorem Xr8 (z:List AV) (q m:Nat) (ps:List (Nat × Nat)) (r:List AV) (f:FuncId) (cs:List AV):Zv z ((q,m)::ps) ((.cl f cs)::r)=Zv (z.set q (.cl f cs)) ps r:=rfl
theorem Xdt (n1 q m:Nat) (ps:List (Nat × Nat)) (r:List AV) (f:FuncId) (cs:List AV):Yv n1 ((q,m)::ps) ((.cl f cs)::r)=(one (.cl f cs)∧m=1∧q < n1∧Yv n1 ps r):=rfl
theorem Xpc (z:List AV) (q m:Nat) (ps:List (Nat × Nat)) (r:List AV) (b:Nat):Zv z ((q,m)::ps) ((.mp b)::r)=Zv (z.set q (.mp b)) ps r:=rfl
theorem Xeb (n1 q m:Nat) (ps:List (Nat × Nat)) (r:List AV) (b:Nat):Yv n1 ((q,m)::ps) ((.mp b)::r)=(one (.mp b)∧m=1∧q < n1∧Yv n1 ps r):=rfl
theorem Xes (z:List AV) (q m:Nat) (ps:List (Nat × Nat)) (r:List AV) (v:Value):Zv z ((q,m)::ps) ((.lit v)::r)=Zv (z.set q (.lit v)) ps r:=rfl
theorem Qzc (n1 q m:Nat) (ps:List (Nat × Nat)) (r:List AV) (v:Value):Yv n1 ((q,m)::ps) ((.lit v)::r)=(one (.lit v)∧m=1∧q < n1∧Yv n1 ps r):=rfl
theorem Xdx (z:List AV):Zv z [] []=z:=rfl
theorem Qz7 (n:Nat):Yv n [] []=True:=by simp[Yv]
attribute [go_sem] Yfr Yfi Xik Z6 Z7 Z8 Z9 Ydm Yet Yc7 Yfz Yeo Yei Ycq Yf6 Ybp Ydc Xxg Ydr Xth Yb8 Ybl Ydg Qzj Xl8 Xrx wV rW St.put St.aK St.nw St.bD FF Qyx Xvu Xe2 Qt jz Ue Xf jj rX Yq ah Qu oz tB bP Qx ay Sub Xiw Xd8 Ydd Ybw Qxc Ye0 Ydt Yba cond_true cond_false true_and and_true List.map_cons List.map_nil List.cons_append List.nil_append Option.toList_some Option.toList_none List.getD_cons_zero List.getD_cons_succ List.set_cons_zero List.set_cons_succ List.take_succ_cons List.take_zero List.drop_succ_cons List.drop_zero List.length_cons List.length_nil Nat.zero_add Nat.add_zero Bool.and_true Bool.true_and Bool.and_false Bool.false_and Bool.or_true Bool.true_or Bool.or_false Bool.false_or Bool.not_true Bool.not_false Bool.not_not forall_const implies_true true_implies Bool.false_eq_true false_implies imp_self Qzl Xnw Qwx Xdn Xie Xiy Xjo Xfp Qui Xfi Xq8 Qty Xh4 Qt6 Qzq Qzz Xdo Xgt Xb2 Qt9 Xa1 Xhb Qzy Xp6 Qv4 Xit Xiv Xmh Xji Xdl Qvr Xhw Xkn Xb8 Xph Xea Xnh Qvi Xa3 Xjl Qy7 Xi3 Xde Qye Xak Xoe Qxq Xfj Xg9 Xq7 Xnv Xfs Xf2 Xuf Xa4 Xqr Xnx Xsv Xrp Xp9 Qzd Xfl Xte Qze Xqc Xt5 Xs3 Xk0 Xbb Xme Qwf Xfn Xdq Xnq Xk3 Xer Qx6 Qvs Xe3 Qt2 Xau Xar Xdk Xhf Qzm Qsy Xb3 Xhs Xhp Xt0 Xax Xnt Xkd Xrj Xvp Xjg Qzh Xh0 Xw0 Xb7 Xjw Xol Xtv Xw8 Xkh Qz4 Xoh Quk Xet Xha Xns Quu Xf4 Xrb Xat Xpy Qtr Xe5 Xgc Xje Qtn Xez Xn8 Qys Xqx Qx9 Xm3 Xff Xpp Xeg Xec Xe1 Qu8 Qzp Xa2 Qwm Xgm Qyt Qz5 Xnf Xel Xl7 Xnk Xma Xh1 Xq9 Xqg Xjh Xqy Xox Xj3 Xoy Xep Xky Xgv Xg4 Qz1 Xft Xli Xfo Xqa Xpo Xot Xdy Xpa Xj0 Xzn Xy6 Xpu Xm1 Xmp Xmm Xiu Xeo Xek Qt4 Xh8 Xfq Qr4 Yeb Xjb Xlu Qzt Xhu QF Xay Xsw Xkk Xoi Xne Xu3 Xmi Xr1 Xvx Xrv Xwh Xhv Xgd Xpt Xhe Xp0 Xgx Xms Xl3 Xgf Xrw Xa5 Qyw Qtb Xmw Xo1 Xa6 Qqd Qyl Qq2 Qu0 Qt3 Qq8 Xao Qvf Yas Xyf Xrs Xqo Xid Xaw Xks Xg3 Xng Xjy Xjp Xpg Xrc Xqp Xju Xh3 Xjk Xir Xgh Xhh Xad Qtm Qxi Xll Qzk Xaa Qz6 Xev Xeh Xil Qw4 Xdd Xin Xpf Xkx Qz0 Xf6 Xy9 Xxy Xu2 Xvb Xpv Xk6 Xyz Yag Xzz Xxu Ybj Ya3 Ya5 Yab Ybe Xze Xzi Yar Yae Yb7 Xva Xtd Xzd Xy7 Xvw Xtn Xwo Xtz Xw3 Xwg Xo2 Xjn Xfc Xdg Xi0 Xg1 Xba Xaz Xew Xf3 Xb6 Xas Xyr Yaa Xwk Xtt Xjc Xr5 Xdv Xhd Xhj Xdr Xgq Xia Xla Xq4 Xv6 Xts Xlk Xm0 Xn3 Xn9 Xl6 Xua Xsj Xfe Xf0 Xal Xah Xvh Xup Xug Xu0 Xxp Xxn Yao Xym Xdi Xdf Xh5 Xht Xge Xg6 Xn7 Xqz Xmn Xna Xkv Xpd Xlc Xk2 Xn0 Xm2 Xor Xpi Xq5 Xoa Xl2 Xq0 Xoo Xjd Xow Xm4 Xee Xlh Xfk Xdp Xhk Xm5 Xp1 Xfm Xio Qzu Xa0 Qtp Xgo Xa7 Xfd Xaq Xf5 Qzr Xlm Xhr Xod Xgz Xda Qzi Qyz Qvu Xr8 Xdt Xpc Xeb Xes Qzc Xdx Qz7
def Qo (l:List Int):List AV:=l.map (.int .i64)
def Ze (l:List Bool):List AV:=l.map .bool
def Xg (l:List UInt8):List AV:=l.map fun (b:UInt8)=>.int .u8 b.toNat
theorem Xv (l:List Int):(Qo l).length=l.length:=by simp[Qo]
theorem Xo5 (l:List Bool):(Ze l).length=l.length:=by simp[Ze]
theorem QG (l:List UInt8):(Xg l).length=l.length:=by simp[Xg]
theorem zK {l:List Int} {i:Nat} (h:i < l.length):(Qo l).getD i .any=.int .i64 (l.getD i 0):=by simp[Qo,List.getD,h]
theorem JR {l:List Bool} {i:Nat} (h:i < l.length):(Ze l).getD i .any=.bool (l.getD i false):=by simp[Ze,List.getD,h]
theorem QH {l:List UInt8} {i:Nat} (h:i < l.length):(Xg l).getD i .any=.int .u8 (l.getD i 0).toNat:=by simp[Xg,List.getD,h]
theorem Xoj (l:List Int) (n:Nat):(Qo l).take n=Qo (l.take n):=by simp[Qo,List.map_take]
theorem Xk8 (l:List Int) (n:Nat):(Qo l).drop n=Qo (l.drop n):=by simp[Qo,List.map_drop]
theorem Xqs (l:List UInt8) (n:Nat):(Xg l).take n=Xg (l.take n):=by simp[Xg,List.map_take]
theorem Xmd (l:List UInt8) (n:Nat):(Xg l).drop n=Xg (l.drop n):=by simp[Xg,List.map_drop]
theorem Xfu (l:List Bool) (n:Nat):(Ze l).take n=Ze (l.take n):=by simp[Ze,List.map_take]
theorem Xei (l:List Bool) (n:Nat):(Ze l).drop n=Ze (l.drop n):=by simp[Ze,List.map_drop]
theorem Xs9 (l m:List Int):Qo l++Qo m=Qo (l++m):=by simp[Qo]
theorem Xtp (l m:List UInt8):Xg l++Xg m=Xg (l++m):=by simp[Xg]
theorem Xke {α:Type} {l:List α} {b j:Nat} {d:α} (h:j < b):(l.take b).getD j d=l.getD j d:=by simp only[List.getD,List.getElem?_take,if_pos h]
theorem Xlo {α:Type} {l:List α} {a j:Nat} {d:α}:(l.drop a).getD j d=l.getD (a + j) d:=by simp only[List.getD,List.getElem?_drop]
theorem w7 {α:Type} {l:List α} {i j:Nat} {v d:α} (h:i < l.length):(l.set i v).getD j d=if i=j then v else l.getD j d:=by
 simp only[List.getD,List.getElem?_set]
 split
 ·next e=>subst e;simp[h]
 ·rfl
theorem Xvd {α:Type} {l:List α} {n:Nat} (h:l.length≤n):l.take n=l:=List.take_of_length_le h
theorem Xij {l r:List AV} {i:Nat} (h:i < l.length):(l++r).getD i .any=l.getD i .any:=by simp only[List.getD];rw[List.getElem?_append_left h]
theorem Xnb {l r:List AV} {i:Nat} {v:AV} (h:i < l.length):(l++r).set i v=l.set i v++r:=by rw[List.set_append,if_pos h]
theorem Ydj (b:Bool):(b=false→(!b)=true)=True:=by cases b<;>simp
theorem Yaz (b:Bool):((!b)=true→b=false)=True:=by cases b<;>simp
theorem zL (ρ:Nat→Nat) (l:List Int):ay ρ (Qo l)=Qo l:=by rw[Yk];simp[Qo,aD]
theorem Xjx (ρ:Nat→Nat) (l:List UInt8):ay ρ (Xg l)=Xg l:=by rw[Yk];simp[Xg,aD]
theorem QI (ρ:Nat→Nat) (l:List Bool):ay ρ (Ze l)=Ze l:=by rw[Yk];simp[Ze,aD]
theorem zM (ρ:Nat→Nat) (l m:List AV):ay ρ (l++m)=ay ρ l++ay ρ m:=by simp[Yk]
theorem Xt6 (l:List Int) (i:Nat) (n:Int):(Qo l).set i (.int .i64 n)=Qo (l.set i n):=by simp[Qo,List.map_set]
theorem Xkl (l:List Bool) (i:Nat) (n:Bool):(Ze l).set i (.bool n)=Ze (l.set i n):=by simp[Ze,List.map_set]
theorem QJ {l:List AV} {a b j:Nat} (h:j < b):((l.drop a).take b).getD j .any=l.getD (a + j) .any:=by simp only[List.getD,List.getElem?_take,List.getElem?_drop,if_pos h]
theorem Xtq {l:List AV} {b j:Nat} (h:j < b):(l.take b).getD j .any=l.getD j .any:=by simp only[List.getD,List.getElem?_take,if_pos h]
theorem Xww {l:List AV} {a j:Nat}:(l.drop a).getD j .any=l.getD (a + j) .any:=by simp only[List.getD,List.getElem?_drop]
theorem Xxo {l:List AV} {a b:Nat} (h:a + b≤l.length):((l.drop a).take b).length=b:=by simp;omega
theorem Xsc {l:List AV} {b:Nat} (h:b≤l.length):(l.take b).length=b:=by simp;omega
theorem Xj5 {cs vs:List AV} (h:cs.length=vs.length):Yp cs 0 vs=vs:=by unfold Yp;simp[h]
theorem Xv1 (cs:List AV) (o:Nat):Yp cs o []=cs:=by unfold Yp;simp
theorem Xkw (c v:AV) (cs vs:List AV):Yp (c::cs) 0 (v::vs)=v::Yp cs 0 vs:=by unfold Yp;simp
theorem Xou (c:AV) (cs vs:List AV) (o:Nat):Yp (c::cs) (o + 1) vs=c::Yp cs o vs:=by unfold Yp;simp[Nat.add_right_comm]
theorem Xp2 {cs vs:List AV} {o:Nat} (h:o + vs.length≤cs.length):(Yp cs o vs).length=cs.length:=by unfold Yp;simp;omega
theorem zN (n:Nat) (l:List Int):ah n (Qo l)=True:=eq_true (Xi.2 fun x hx=>by simp[Qo]at hx;obtain ⟨a,_,rfl⟩:=hx;simp[Qf])
theorem QK (n:Nat) (l:List Bool):ah n (Ze l)=True:=eq_true (Xi.2 fun x hx=>by simp[Ze]at hx;rcases hx with ⟨_,rfl⟩|⟨_,rfl⟩<;>simp[Qf])
theorem Xxm (n:Nat) (l:List UInt8):ah n (Xg l)=True:=eq_true (Xi.2 fun x hx=>by simp[Xg]at hx;obtain ⟨a,_,rfl⟩:=hx;simp[Qf])
theorem vo (n:Nat) (l m:List AV):ah n (l++m)=(ah n l∧ah n m):=by simp only[Xi,List.mem_append,eq_iff_iff];exact ⟨fun h=>⟨fun x hx=>h x (.inl hx),fun x hx=>h x (.inr hx)⟩,fun h x hx=>hx.elim (h.1 x) (h.2 x)⟩
theorem Xum (l:List UInt8):toB (Xg l)=l:=by
 simp only[toB,Xg,List.map_map]
 conv=>rhs;rw[← List.map_id l]
 refine List.map_congr_left fun b _=>?_
 simp[bB]
theorem Ya7 (l:List UInt8):∀ v ∈ Xg l,b6 .u8 v:=fun v hv=>by simp[Xg]at hv;obtain ⟨a,_,rfl⟩:=hv;simp[b6]
theorem Xwr (l:List UInt8):(∀ v ∈ Xg l,b6 .u8 v)=True:=eq_true (Ya7 l)
theorem JS (s:FS) (l:List Int):(Qo l).map (Yj s)=Qo l:=by simp[Qo,Yj]
theorem QL (s:FS) (l:List Bool):(Ze l).map (Yj s)=Ze l:=by simp[Ze,Yj]
theorem wrap_i64 {n:Int} (h0:-9223372036854775808≤n) (h1:n < 9223372036854775808):IntKind.i64.wrap n=n:=by rw[IntKind.wrap_i64];omega
theorem wrap_u32 {n:Int} (h0:0≤n) (h1:n < 4294967296):IntKind.u32.wrap n=n:=by rw[IntKind.wrap_u32];omega
theorem wrap_u8 {n:Int} (h0:0≤n) (h1:n < 256):IntKind.u8.wrap n=n:=by rw[IntKind.wrap_u8];omega
theorem Xuz {n:Int} (h0:0≤n) (h1:n < 18446744073709551616):IntKind.u64.wrap n=n:=by simp[IntKind.wrap,IntKind.bits,IntKind.signed];omega
theorem Yey:((0:Nat):Int)=0:=rfl
theorem Yec (n:Nat):((no_index (OfNat.ofNat n):Nat):Int)=OfNat.ofNat n:=rfl
theorem Yep {P:Program} {c:Cx} {Q:EX→St→Prop} {s:St} {x:TV} {a b:TC} {t:Bool} (h:aZ c.gl s.fs x=.bool t) (ht:t=true→xw P c a Q s) (hf:t=false→xw P c b Q s):xw P c (.cond x a b) Q s:=by
 rw[Ybb,h]
 exact ⟨trivial,ht,hf⟩
attribute [go_sem] Xv Xo5 QG zK JR QH Xoj Xk8 Xqs Xmd Xfu Xei Xke Xlo Xij Xnb Xvd Ydj Yaz zL Xjx QI zM List.take_take Nat.min_self Nat.mul_one Nat.one_mul Xt6 Xkl QJ Xtq Xww Xxo Xsc Xj5 Xv1 Xkw Xou Xp2 zN QK Xxm vo Xum Xwr JS QL wrap_i64 wrap_u32 wrap_u8 Xuz Int.toNat_natCast Yey Yec AV.int.injEq AV.bool.injEq AV.str.injEq AV.agg.injEq AV.aU.injEq AV.isl.injEq AV.sl.injEq AV.ptr.injEq AV.xp.injEq Bk.cells.injEq
section
variable {P:Program}
def mq (P:Program) (c:Cx) (k:PK) (vs:List AV) (r:AV):Prop :=
 ∀ (o:Oper) (ys:List Operand),Xy P o=some (k,ys)→∀ (g:Nat→GM) (W:Nat→Prop) (a:Act) (w:World),(∀ i,W i→i < w.heap.size)→(∀ i,VR (fun _=>.un) W w (c.gl i) (.pointer (some ⟨i,0,none⟩)))→bO g W w vs (ys.map a.eval) →
  ∀ (K:Act→World→Prop) (Q:Exit→Act→World→Prop),(∀ v w',Fr w w' (fun _=>False)→VR g W w' r v→K (a.put o.dst v) w')→o.wp P a w K Q
theorem QM {c:Cx} {s:St} {d:Option Nat} {k:PK} {xs:List TV} {gd:Option (Nat × Bool)} {args:List AV} {r:AV} (aX:Ue c.gl s.fs xs gd) (aN:(aF c.gl s.fs xs).map Qj=args)
  (hq:ob (gB s.fs gd) (mq P c k args r)):Kv P c (.pd d k xs gd) s.fs (Yq d xs gd) (s.bD d (cw (gB s.fs gd) r)).fs:=by
 intro ops io he
 obtain ⟨bc,bg,hd,ys,aH,rfl⟩:=Zl he
 have eV:(s.bD d (cw (gB s.fs gd) r)).fs=match d with|some d=>s.fs.put d (cw (gB s.fs gd) r)|none=>s.fs:=by
  cases d with
  | none=>rfl
  | some d=>exact St.bS _ _ _
 rw[eV]
 refine ⟨fun i hi=>?_,fun b _=>by cases d<;>rfl,?_⟩
 ·cases d with
  | none=>rfl
  | some d=>show (s.fs.put d _).T i=_;rw[FS.dh,if_neg (fun e=>hi (by simp[Yq,e]))]
 ·intro s2 hT hH g a w hR K Q' hK
  have bj:aF c.gl s2 (ys.map aS)=aF c.gl s.fs (ys.map aS):=Xu fun i hi=>hT i (by simp[Yq,hi])
  have hg:∀ t b,gd=some (t,b)→s2.T t=s.fs.T t:=fun t b e=>hT t (by simp[Yq,e,jj])
  have oh:gB s2 gd=gB s.fs gd:=by
   cases gd with
   | none=>rfl
   | some p=>obtain ⟨t,b⟩:=p;simp only[gB,hg t b rfl]
  have om:fx s2 gd:=by
   have:=aX.1
   cases gd with
   | none=>exact this
   | some p=>obtain ⟨t,b⟩:=p;simpa only[fx,hg t b rfl] using this
  have lO:∀ v w',Fr w w' (fun _=>False)→VR g (Qn c g s2) w' (cw (gB s.fs gd) r) v→K (a.put io.dst v) w':=fun v w' hf hv=>by
   rw[bg]
   have bf:=hR.grow hf
   cases d with
   | none =>
    refine hK g _ w' ?_
    have:dj s2 s.fs (Yq none (ys.map aS) gd)=s2:=by unfold dj Yq;simp
    simp only[this];exact bf
   | some d =>
    refine hK g _ w' ?_
    show R c g (dj s2 (s.fs.put d _) ⟨jj gd++Xf (ys.map aS),[],[d],[]⟩) _ _
    rw[wW]
    exact bf.put (by simpa using hd) hv
  unfold me
  rw[vi bc hR om,oh]
  have run:(∀ b,gB s.fs gd=some b→b=true)→io.wp P a w K Q':=by
   intro hb
   have pw:Qt none (aF c.gl s2 (ys.map aS)):=by
    rw[bj]
    have:=aX.2
    cases b9:gB s.fs gd with
    | none=>rw[b9]at this;exact this
    | some b=>rw[b9]at this;exact zD (hb b b9) this
   have cD:mq P c k args r:=by
    cases b9:gB s.fs gd with
    | none=>rw[b9]at hq;exact hq
    | some b=>rw[b9]at hq;exact hq (hb b b9)
   have hv:=Xx (hR.aF ys) pw
   rw[bj,aN]at hv
   have hX:∀ k,Qn c g s2 k→k < w.heap.size:=by
    rintro k (h|⟨b',hl,fh⟩)
    ·have:=(hR.xs k h).1;have:=hR.fr.size;omega
    ·exact BR.lt (fh ▸ hR.h b') hl
   refine cD io ys aH g _ a w hX (fun i=>(hR.gl i)) hv K Q' fun v w' hf fN=>?_
   refine lO v w' hf ?_
   cases b9:gB s.fs gd with
   | none=>exact fN
   | some b=>exact .dx (fun _=>fN) fun h=>by rw[hb b b9]at h;cases h
  cases b9:gB s.fs gd with
  | none=>simp only[Option.getD_none,if_true];exact run fun b h=>by rw[b9]at h;cases h
  | some b =>
   cases b with
   | true=>simp only[Option.getD_some,if_true];exact run fun b h=>by rw[b9]at h;cases h;rfl
   | false =>
    simp only[Option.getD_some,Bool.false_eq_true,if_false]
    refine lO undef w (Fr.refl _ _) ?_
    rw[b9]
    exact .dx (fun h=>by cases h) fun _=>rfl
theorem Yb4 {c:Cx} {r0:List bG} {K:St→Prop} {s:St} {d:Option Nat} {k:PK} {xs:List TV} {gd:Option (Nat × Bool)} {args:List AV} {r:AV} (hq:ob (gB s.fs gd) (mq P c k args r)) (aN:(aF c.gl s.fs xs).map Qj=args)
  (aX:Ue c.gl s.fs xs gd∧XP P c r0 K (s.bD d (cw (gB s.fs gd) r))):Xw P c (.pd d k xs gd) r0 K s :=
 .inl ⟨_,_,QM aX.1 aN hq,aX.2⟩
theorem Xsf {c:Cx} {anc:List Nat} {fs:List bp} {r0:List bG} {K:St→Prop} {s:St} {d:Option Nat} {k:PK} {xs:List TV} {gd:Option (Nat × Bool)} {args:List AV} {r:AV} (hq:ob (gB s.fs gd) (mq P c k args r)) (aN:(aF c.gl s.fs xs).map Qj=args)
  (aX:Ue c.gl s.fs xs gd∧XD P c anc r0 (Yq d xs gd::fs) K (s.bD d (cw (gB s.fs gd) r))):Zi P c anc (.pd d k xs gd) r0 fs K s :=
 ⟨_,_,QM aX.1 aN hq,aX.2⟩
theorem w8 {o:Option Bool} {p:Prop} (h:p):ob o p:=by cases o<;>first|exact h|exact fun _=>h
theorem Ym {c:Cx} {r0:List bG} {K:St→Prop} {s:St} {d:Option Nat} {f:FuncId} {xs:List TV} {gd:Option (Nat × Bool)} {args:List AV} {r:AV} (aN:(aF c.gl s.fs xs).map Qj=args) (eg:PS P c.gl f args r)
  (aX:Ue c.gl s.fs xs gd∧ah 0 args∧XP P c r0 K (s.bD d (cw (gB s.fs gd) r))):Xw P c (.pd d (.call f) xs gd) r0 K s:=Yej (w8 eg) aN aX
theorem Ya {c:Cx} {anc:List Nat} {fs:List bp} {r0:List bG} {K:St→Prop} {s:St} {d:Option Nat} {f:FuncId} {xs:List TV} {gd:Option (Nat × Bool)} {args:List AV} {r:AV} (aN:(aF c.gl s.fs xs).map Qj=args) (eg:PS P c.gl f args r)
  (aX:Ue c.gl s.fs xs gd∧ah 0 args∧XD P c anc r0 (Yq d xs gd::fs) K (s.bD d (cw (gB s.fs gd) r))):Zi P c anc (.pd d (.call f) xs gd) r0 fs K s:=Yd0 (w8 eg) aN aX
theorem Xn {c:Cx} {r0:List bG} {K:St→Prop} {s:St} {d:Option Nat} {k:PK} {xs:List TV} {gd:Option (Nat × Bool)} {args:List AV} {r:AV} (aN:(aF c.gl s.fs xs).map Qj=args) (hq:mq P c k args r)
  (aX:Ue c.gl s.fs xs gd∧XP P c r0 K (s.bD d (cw (gB s.fs gd) r))):Xw P c (.pd d k xs gd) r0 K s:=Yb4 (w8 hq) aN aX
theorem Xj {c:Cx} {anc:List Nat} {fs:List bp} {r0:List bG} {K:St→Prop} {s:St} {d:Option Nat} {k:PK} {xs:List TV} {gd:Option (Nat × Bool)} {args:List AV} {r:AV} (aN:(aF c.gl s.fs xs).map Qj=args) (hq:mq P c k args r)
  (aX:Ue c.gl s.fs xs gd∧XD P c anc r0 (Yq d xs gd::fs) K (s.bD d (cw (gB s.fs gd) r))):Zi P c anc (.pd d k xs gd) r0 fs K s:=Xsf (w8 hq) aN aX
def zO (rec:TypeId→Option (List SK)) (P:Program):Nat→List Field→Option (List SK)
 | _,[]=>some []
 | o, f :: fs => if f.name = "_" ∨ f.offset ≠ o ∨ (P.info? f.type).isNone then none else (rec f.type).bind fun ks => if P.cellsOf f.type = ks.length then (zO rec P (o + ks.length) fs).map (ks ++ ·) else none
def Uv (P:Program):Nat→TypeId→Option (List SK)
 | 0,_=>none
 | d + 1,t=>match P.underlying t with
  | some .bool=>some [.bool]
  | some (.int k)=>some [.int k]
  | some .string=>some [.str]
  | some (.struct fs)=>if P.stoodInHeld t then none else zO (Uv P d) P 0 fs.toList
  | some (.array n e)=>if (P.info? e).isNone then none else (Uv P d e).bind fun ks=>if P.cellsOf e=ks.length then some (List.replicate n ks).flatten else none
  | _=>none
def B8:SK→Value→Value→Bool
 | .int _,.int _ a,.int _ b=>a == b
 | .bool,.bool a,.bool b=>a == b
 | .str,.string a,.string b=>a.toList == b.toList
 | _,_,_=>true
def Ydp:SK→Value→Prop
 | .int k,v=>∃ n,v=.int k n
 | .bool,v=>∃ b,v=.bool b
 | .str,v=>∃ b,v=.string b
 | .ref,_=>False
def Jp:List SK→List Value→List Value→Bool
 | k::ks,u::us,v::vs=>B8 k u v && Jp ks us vs
 | _,_,_=>true
def Uy:List SK→List Value→Prop
 | k::ks,u::us=>Ydp k u∧Uy ks us
 | [],_=>True
 | _::_,[]=>False
theorem vp:∀ (ks ls:List SK) (us:List Value),Uy (ks++ls) us→Uy ks us∧Uy ls (us.drop ks.length)
 | [],_,us,h=>⟨by cases us<;>trivial,by simpa using h⟩
 | _::ks,ls,[],h=>h.elim
 | _::ks,ls,_::us,h=>⟨⟨h.1,(vp ks ls us h.2).1⟩,by simpa using (vp ks ls us h.2).2⟩
theorem vq:∀ (ks:List SK) (us:List Value),Uy ks us→ks.length≤us.length
 | [],_,_=>by simp
 | _::_,[],h=>h.elim
 | _::ks,_::us,h=>by have:=vq ks us h.2;simp;omega
theorem JT:∀ (ks ls:List SK) (us vs:List Value),ks.length≤us.length→ks.length≤vs.length→Jp (ks++ls) us vs=(Jp ks us vs && Jp ls (us.drop ks.length) (vs.drop ks.length))
 | [],_,_,_,_,_=>by simp[Jp]
 | _::_,_,[],_,h,_=>by simp at h
 | _::_,_,_::_,[],_,h=>by simp at h
 | k::ks,ls,u::us,v::vs,h1,h2=>by
  simp only[List.length_cons]at h1 h2
  simp[Jp,JT ks ls us vs ae ae,Bool.and_assoc]
theorem w9:∀ (ks:List SK) (us:List Value),Uy ks us→Uy ks (us.take ks.length)
 | [],us,_=>by cases us<;>trivial
 | _::_,[],h=>h.elim
 | k::ks,u::us,h=>⟨h.1,w9 ks us h.2⟩
theorem JU:∀ (ks:List SK) (us vs:List Value),Jp ks (us.take ks.length) (vs.take ks.length)=Jp ks us vs
 | [],_,_=>by simp[Jp]
 | _::_,[],_=>by simp[Jp]
 | _::_,_::_,[]=>by simp[Jp]
 | k::ks,u::us,v::vs=>by simp[Jp,JU ks us vs]
def Ws (P:Program) (t:TypeId) (x:Value) (us:List Value):Prop :=
 match P.underlying t with
 | some (.struct _)=>x=.agg us.toArray
 | some (.array _ _)=>x=.agg us.toArray
 | _=>us=[x]
theorem zP (w:World) {m:Nat} {e:TypeId} {ks:List SK} (h:Uv P m e=some ks) (hi:(P.info? e).isSome) (hc:P.cellsOf e=ks.length) {xs:Array Value} {o:Nat} (hr:Uy ks (xs.toList.drop o)) :
  ∃ a,(part e xs o).run P w=.ok a w∧Ws P e a ((xs.toList.drop o).take ks.length):=by
 obtain ⟨i,hi⟩:=Option.isSome_iff_exists.1 hi
 cases m with
 | zero=>cases h
 | succ m =>
  have one:∀ k,ks=[k]→∃ v,xs[o]?=some v∧(xs.toList.drop o).take ks.length=[v]:=by
   rintro k rfl
   have hl:=vq _ _ hr
   cases hd:xs.toList.drop o with
   | nil=>rw[hd]at hl;simp at hl
   | cons v r =>
    refine ⟨v,?_,by simp⟩
    have:(xs.toList.drop o)[0]?=some v:=by rw[hd];rfl
    simpa using this
  have agg:(xs.extract o (o + P.cellsOf e)).toList=(xs.toList.drop o).take ks.length:=by
   rw[Array.toList_extract,hc];simp[List.extract]
  unfold Uv at h
  cases hu:P.underlying e with
  | none=>simp[hu]at h
  | some kd =>
   rw[hu]at h
   cases kd<;>simp at h
   case bool=>obtain ⟨v,h1,h2⟩:=one _ h.symm;exact ⟨v,by simp[part,isAgg,run_underlying hu,h1],by simp only[Ws,hu];exact h2⟩
   case int k=>obtain ⟨v,h1,h2⟩:=one _ h.symm;exact ⟨v,by simp[part,isAgg,run_underlying hu,h1],by simp only[Ws,hu];exact h2⟩
   case string=>obtain ⟨v,h1,h2⟩:=one _ h.symm;exact ⟨v,by simp[part,isAgg,run_underlying hu,h1],by simp only[Ws,hu];exact h2⟩
   case struct fs=>exact ⟨.agg (xs.extract o (o + P.cellsOf e)),by simp[part,isAgg,run_underlying hu,run_sizeOf w hi],by simp only[Ws,hu];rw[← agg]⟩
   case array n e'=>exact ⟨.agg (xs.extract o (o + P.cellsOf e)),by simp[part,isAgg,run_underlying hu,run_sizeOf w hi],by simp only[Ws,hu];rw[← agg]⟩
theorem FG {α:Type} {x:Option α} (h:¬ x.isNone=true):x.isSome=true:=by cases x<;>simp_all
def JV (P:Program) (D:Nat) (t:TypeId) (ks:List SK):Prop :=
 ∀ (w:World) (x y:Value) (us vs:List Value),Ws P t x us→Ws P t y vs→us.length=ks.length→vs.length=ks.length→Uy ks us→Uy ks vs→(Op.equalIn D t x y).run P w=.ok (Jp ks us vs) w
theorem QN {m D:Nat} (IH:∀ t ks,Uv P m t=some ks→JV P D t ks):∀ (fs:List Field) (o:Nat) (ks:List SK),zO (Uv P m) P o fs=some ks→∀ (w:World) (xs ys:Array Value),Uy ks (xs.toList.drop o)→Uy ks (ys.toList.drop o) →
  (Op.eqFields D xs ys fs).run P w=.ok (Jp ks (xs.toList.drop o) (ys.toList.drop o)) w
 | [],o,ks,h,w,xs,ys,_,_=>by cases h;simp[Op.eqFields,Jp]
 | f::fs,o,ks,h,w,xs,ys,hx,hy=>by
  unfold zO at h
  split at h
  ·cases h
  ·rename_i hn
   simp only[not_or,Decidable.not_not]at hn
   obtain ⟨dU,ew,mr⟩:=hn
   have nf:=FG mr
   simp only[Option.bind_eq_some_iff]at h
   obtain ⟨k1,h1,h2⟩:=h
   split at h2
   ·rename_i hc
    simp only[Option.map_eq_some_iff]at h2
    obtain ⟨k2,h2,rfl⟩:=h2
    obtain ⟨x1,x2⟩:=vp _ _ _ hx
    obtain ⟨y1,y2⟩:=vp _ _ _ hy
    obtain ⟨a,pa,ha⟩:=zP w h1 nf hc x1
    obtain ⟨b,pb,hb⟩:=zP w h1 nf hc y1
    have lx:=vq _ _ x1
    have ly:=vq _ _ y1
    have hr:=IH _ _ h1 w a b _ _ ha hb (by rw[List.length_take];omega) (by rw[List.length_take];omega) (w9 _ _ x1) (w9 _ _ y1)
    rw[JU]at hr
    rw[List.drop_drop]at x2 y2
    have ih:=QN IH fs (o + k1.length) k2 h2 w xs ys x2 y2
    rw[JT _ _ _ _ lx ly,List.drop_drop,List.drop_drop]
    simp only[Op.eqFields,dU,ne_eq,not_false_eq_true,if_true,Sem.run_bind,ew,pa,pb,hr,Result.andThen_ok]
    cases hq:Jp k1 (xs.toList.drop o) (ys.toList.drop o) with
    | false=>simp
    | true=>simpa using ih
   ·cases h2
theorem QO {m D:Nat} {e:TypeId} {ks:List SK} (he:Uv P m e=some ks) (hi:(P.info? e).isSome) (hc:P.cellsOf e=ks.length) (IH:JV P D e ks) (xs ys:Array Value):∀ (n i:Nat) (w:World),Uy (List.replicate n ks).flatten (xs.toList.drop (i * ks.length))→Uy (List.replicate n ks).flatten (ys.toList.drop (i * ks.length)) →
  (Op.eqItems D e (P.cellsOf e) xs ys (List.range' i n)).run P w=.ok (Jp (List.replicate n ks).flatten (xs.toList.drop (i * ks.length)) (ys.toList.drop (i * ks.length))) w
 | 0,i,w,_,_=>by simp[Op.eqItems,Jp]
 | n + 1,i,w,hx,hy=>by
  rw[List.replicate_succ,List.flatten_cons]at hx hy ⊢
  obtain ⟨x1,x2⟩:=vp _ _ _ hx
  obtain ⟨y1,y2⟩:=vp _ _ _ hy
  obtain ⟨a,pa,ha⟩:=zP w he hi hc x1
  obtain ⟨b,pb,hb⟩:=zP w he hi hc y1
  have lx:=vq _ _ x1
  have ly:=vq _ _ y1
  have hr:=IH w a b _ _ ha hb (by rw[List.length_take];omega) (by rw[List.length_take];omega) (w9 _ _ x1) (w9 _ _ y1)
  rw[JU]at hr
  have e1:i * ks.length + ks.length=(i + 1) * ks.length:=by rw[Nat.add_mul,Nat.one_mul]
  rw[List.drop_drop,e1]at x2 y2
  have ih:=QO he hi hc IH xs ys n (i + 1) w x2 y2
  rw[JT _ _ _ _ lx ly,List.drop_drop,List.drop_drop,e1]
  rw[List.range'_succ]
  simp only[Op.eqItems,Sem.run_bind,hc,pa,pb,hr,Result.andThen_ok]
  cases hq:Jp ks (xs.toList.drop (i * ks.length)) (ys.toList.drop (i * ks.length)) with
  | false=>simp
  | true=>rw[hc]at ih;simpa using ih
theorem FH (d:Nat):∀ (m:Nat) (t:TypeId) (ks:List SK),Uv P m t=some ks→JV P (d + m) t ks
 | 0,_,_,h=>by cases h
 | m + 1,t,ks,h=>by
  intro w x y us vs hx hy lu lv ou ov
  unfold Uv at h
  cases hu:P.underlying t with
  | none=>simp[hu]at h
  | some kd =>
   rw[hu]at h
   simp only[Ws,hu]at hx hy
   cases kd<;>simp only[Option.some.injEq,reduceCtorEq]at h hx hy
   case bool =>
    subst h hx hy
    obtain ⟨⟨a,rfl⟩,_⟩:=ou
    obtain ⟨⟨b,rfl⟩,_⟩:=ov
    rw[← Nat.add_assoc,run_equalIn_bool' w _ t a b hu]
    simp[Jp,B8]
   case int k =>
    subst h hx hy
    obtain ⟨⟨a,rfl⟩,_⟩:=ou
    obtain ⟨⟨b,rfl⟩,_⟩:=ov
    rw[← Nat.add_assoc,run_equalIn_int w _ t k k a b hu]
    simp[Jp,B8]
   case string =>
    subst h hx hy
    obtain ⟨⟨a,rfl⟩,_⟩:=ou
    obtain ⟨⟨b,rfl⟩,_⟩:=ov
    rw[← Nat.add_assoc,run_equalIn_string w _ t a b hu]
    simp[Jp,B8]
   case struct fs =>
    subst hx hy
    split at h
    ·cases h
    ·rename_i hp
     have jl:P.fieldsOf t=fs:=by simp[Program.fieldsOf,hu]
     rw[← Nat.add_assoc,run_equalIn_struct w (d + m) t _ _ (by rw[jl];exact hu) (by simpa using hp),jl]
     have:=QN (FH d m) fs.toList 0 ks h w us.toArray vs.toArray (by simpa using ou) (by simpa using ov)
     simpa using this
   case array n e =>
    subst hx hy
    split at h
    ·cases h
    ·rename_i hi
     replace hi:=FG hi
     obtain ⟨i,mh⟩:=Option.isSome_iff_exists.1 hi
     simp only[Option.bind_eq_some_iff]at h
     obtain ⟨k1,h1,h2⟩:=h
     split at h2
     ·rename_i hc
      cases h2
      rw[← Nat.add_assoc,run_equalIn_array w (d + m) _ _ hu mh,List.range_eq_range']
      have:=QO h1 hi hc (FH d m e k1 h1) us.toArray vs.toArray n 0 w (by simpa using ou) (by simpa using ov)
      simpa using this
     ·cases h2
def Yy:AV→Option SK
 | .int k _=>some (.int k)
 | .bool _=>some .bool
 | .str _=>some .str
 | _=>none
theorem zQ {g:Nat→GM} {W:Nat→Prop} {w:World}:∀ (ks:List SK) (cs:List AV) (us:List Value),cs.map Yy=ks.map some→us.length=cs.length→(∀ j,j < cs.length→VR g W w (cs.getD j .any) (us.getD j undef))→Uy ks us
 | [],_,us,_,_,_=>by cases us<;>trivial
 | _::_,[],_,h,_,_=>by simp at h
 | _::_,_::_,[],_,h,_=>by simp at h
 | k::ks,x::cs,u::us,h,hl,hv=>by
  simp only[List.map_cons,List.cons.injEq]at h
  have h0:=hv 0 au
  simp only[List.getD_cons_zero]at h0
  refine ⟨?_,zQ ks cs us h.2 (by simpa using hl) fun j hj=>by simpa using hv (j + 1) (by simp;omega)⟩
  have hk:=h.1
  cases x<;>simp[Yy]at hk<;>subst hk<;>cases h0<;>exact ⟨_,rfl⟩
theorem JW {g:Nat→GM} {W:Nat→Prop} {w:World}:∀ (ks:List SK) (cs ds:List AV) (us vs:List Value),cs.map Yy=ks.map some→ds.map Yy=ks.map some→us.length=cs.length→vs.length=ds.length→(∀ j,j < cs.length→VR g W w (cs.getD j .any) (us.getD j undef))→(∀ j,j < ds.length→VR g W w (ds.getD j .any) (vs.getD j undef)) →
  (Jp ks us vs=true ↔ cs=ds)
 | [],[],[],_,_,_,_,_,_,_,_=>by simp[Jp]
 | [],[],_::_,_,_,_,h,_,_,_,_=>by simp at h
 | [],_::_,_,_,_,h,_,_,_,_,_=>by simp at h
 | _::_,[],_,_,_,h,_,_,_,_,_=>by simp at h
 | _::_,_::_,[],_,_,_,h,_,_,_,_=>by simp at h
 | _::_,_::_,_::_,[],_,_,_,h,_,_,_=>by simp at h
 | _::_,_::_,_::_,_::_,[],_,_,_,h,_,_=>by simp at h
 | k::ks,x::cs,y::ds,u::us,v::vs,hc,hd,lu,lv,hu,hv=>by
  simp only[List.map_cons,List.cons.injEq]at hc hd
  have h0:=hu 0 au
  have h1:=hv 0 au
  simp only[List.getD_cons_zero]at h0 h1
  have ih:=JW ks cs ds us vs hc.2 hd.2 (by simpa using lu) (by simpa using lv) (fun j hj=>by simpa using hu (j + 1) (by simp;omega)) (fun j hj=>by simpa using hv (j + 1) (by simp;omega))
  simp only[Jp,Bool.and_eq_true,ih,List.cons.injEq]
  refine and_congr_left fun _=>?_
  have k1:=hc.1
  have k2:=hd.1
  cases x<;>simp[Yy]at k1<;>subst k1<;>cases y<;>simp[Yy]at k2<;>cases h0<;>cases h1<;>simp_all [B8,ByteArray.toList_eq]
theorem QP {o:Oper} {ne:Bool} {t:TypeId} {xs:List Operand} (h:Xy P o=some (.cA ne t,xs)):∃ x y u,o.op=.binOp (bif ne then .neq else .eql) t x y u∧xs=[x,y]:=by
 unfold Xy at h
 repeat' split at h
 all_goals first
  | (simp only[Option.some.injEq,Prod.mk.injEq,PK.cA.injEq]at h;obtain ⟨⟨rfl,rfl⟩,rfl⟩:=h;rename_i bl;exact ⟨_,_,_,by rw[bl];rfl,rfl⟩)
  | (simp at h;done)
  | (cases h;done)
  | (simp[Option.map_eq_some_iff]at h;done)
theorem zR {c:Cx} {ne:Bool} {t:TypeId} {ks:List SK} {cs ds:List AV} {b:Bool} (hs:Uv P 100 t=some ks) (hk:(match P.underlying t with|some (.struct _)=>true|some (.array _ _)=>true|_=>false)=true) (hm:P.eqGuardType P.depth t=false)
  (hc:cs.map Yy=ks.map some) (hd:ds.map Yy=ks.map some) (hb:b=true ↔ cs=ds):mq P c (.cA ne t) [.agg cs,.agg ds] (.bool (ne != b)):=by
 intro o ys aH g W a w _ _ hv K Q hK
 obtain ⟨x,y,u,bl,rfl⟩:=QP aH
 obtain ⟨hx,hy,_⟩:=hv
 obtain ⟨xs,ex,lx,_,vx⟩:=Wv hx
 obtain ⟨zs,ey,ly,_,vy⟩:=Wv hy
 have QQ:xs.toList.length=cs.length:=by simpa using lx
 have QR:zs.toList.length=ds.length:=by simpa using ly
 have gx:∀ j,xs.toList.getD j undef=xs.getD j undef:=fun j=>by simp[Array.getD_eq_getD_getElem?,List.getD]
 have gy:∀ j,zs.toList.getD j undef=zs.getD j undef:=fun j=>by simp[Array.getD_eq_getD_getElem?,List.getD]
 have QS:∀ j,j < cs.length→VR g W w (cs.getD j .any) (xs.toList.getD j undef):=fun j hj=>by rw[gx];exact vx j hj
 have QT:∀ j,j < ds.length→VR g W w (ds.getD j .any) (zs.toList.getD j undef):=fun j hj=>by rw[gy];exact vy j hj
 have kl:cs.length=ks.length:=by simpa using congrArg List.length hc
 have kl':ds.length=ks.length:=by simpa using congrArg List.length hd
 have hold:∀ z:Array Value,Ws P t (.agg z) z.toList:=fun z=>by
  unfold Ws
  split at hk<;>simp_all
 have hr:=FH (P:=P) 9900 100 t ks hs w _ _ _ _ (hold xs) (hold zs) ae ae (zQ ks cs _ hc QQ QS) (zQ ks ds _ hd QR QT)
 have he:Jp ks xs.toList zs.toList=b:=by
  have:=(JW ks cs ds _ _ hc hd QQ QR QS QT).trans hb.symm
  cases hq:Jp ks xs.toList zs.toList<;>cases b<;>simp_all
 rw[he]at hr
 have run:(execOp a.eval o).run P w=.ok (.value (.bool (ne != b))) w:=by
  unfold execOp
  cases ne
  ·simp only[bl,ex,ey,cond_false,Sem.run_bind,run_eqGuard_agg w _ t x y xs zs hm,run_eql_struct,hr,Result.andThen_ok,Sem.run_pure];cases b<;>rfl
  ·simp only[bl,ex,ey,cond_true,Sem.run_bind,run_eqGuard_agg w _ t x y xs zs hm,run_neq_struct,hr,Result.andThen_ok,Sem.run_pure];cases b<;>rfl
 unfold Oper.wp
 rw[run]
 exact hK _ _ (Fr.refl _ _) (.bool _)
end
section
variable {P:Program} {c:Cx} {g:Nat→GM} {s:FS} {a:Act} {w w':World}
theorem R.ng (hR:R c g s a w) {b:Nat} (bq:s.H b=.free):R c (Za g b .ph) (s.aK b (.cells [])) a w:=by
 have ju:g b=.un:=by
  have:=hR.h b;rw[bq]at this;generalize g b=m at this;cases this;rfl
 have hg:=zg (m:=.ph) ju
 have dy:Za g b .ph b=.ph:=by simp[Za]
 have en:∀ i,i≠b→Za g b .ph i=g i:=fun i h=>by simp[Za,h]
 have hl:∀ i k,((s.aK b (.cells [])).H i).live→Za g b .ph i=.re k→i≠b∧(s.H i).live∧g i=.re k:=fun i k h e=>by
  have bY:i≠b:=fun h=>by subst h;rw[dy]at e;cases e
  rw[FS.bb,if_neg (fun h=>bY h.symm)]at h
  rw[en i bY]at e
  exact ⟨bY,h,e⟩
 have hW:∀ k,Qn c (Za g b .ph) (s.aK b (.cells [])) k→Qn c g s k:=by
  rintro k (h|⟨i,h1,h2⟩)
  ·exact .inl h
  ·exact .inr ⟨i,(hl i k h1 h2).2.1,(hl i k h1 h2).2.2⟩
 have hf:=Fr.refl w (Qn c g s)
 refine ⟨hR.size,hR.dK,fun i=>(hR.t i).mono hf (fun k _=>hW k) hg,fun i=>(hR.gl i).mono hf (fun k _=>hW k) (fun _ _=>rfl),fun i=>?_,fun p q m hp hq h1 h2=>?_,fun p m hp h1=>?_,hR.fr,hR.xs,Fa hR ju⟩
 ·rw[FS.bb]
  split
  ·rename_i e;subst e;rw[dy];exact .ph
  ·rename_i e
   rw[en i fun h=>e h.symm]
   exact (hR.h i).mono hf (fun k _=>hW k) hg fun _ _ _=>rfl
 ·exact hR.inj p q m (hl p m hp h1).2.1 (hl q m hq h2).2.1 (hl p m hp h1).2.2 (hl q m hq h2).2.2
 ·exact hR.old p m (hl p m hp h1).2.1 (hl p m hp h1).2.2
theorem QU (k o:Nat) (t:TypeId) (fz:Nat × Nat):∀ (vs:List Value) (i:Nat) (cur:Array Value) (w:World),w.heap[k]?=some (.cells cur t fz)→(fz=(0,0)∨cur.size≤fz.1)→o + i + vs.length≤cur.size→(∀ v ∈ vs,v.oneCell'=true) →
  (storeCells ⟨k,o,none⟩ vs i).run P w=.ok () (w.setRow k (cur.toList.take (o + i)++vs++cur.toList.drop (o + i + vs.length)).toArray)
 | [],i,cur,w,hg,_,_,_=>by
  simp only[storeCells,List.append_nil,List.length_nil,Nat.add_zero,List.take_append_drop,Array.toArray_toList]
  rw[setRow_self w k cur t fz hg]
  rfl
 | v::rest,i,cur,w,hg,hz,hl,h1=>by
  have hi:o + i < cur.size:=by simp at hl;omega
  have dz:(⟨k,o,none⟩:Addr).add i=⟨k,o + i,none⟩:=by unfold Addr.add;split<;>simp_all
  have eD:w.cell? ⟨k,o + i,none⟩=some cur[o + i]:=by simp[World.cell?,hg,hi]
  have JX:w.frozen? ⟨k,o + i,none⟩=false:=by
   simp only[World.frozen?,hg]
   rcases hz with rfl|hz
   ·simp
   ·have:¬ fz.1≤o + i:=by omega
    simp[this]
  have ep:(store ((⟨k,o,none⟩:Addr).add i) v).run P w=.ok () (w.setRow k (cur.setIfInBounds (o + i) v)):=by
   rw[dz,run_store P w _ v _ (h1 v au),eD]
   simp[JX,setCell_eq_setRow w k (o + i) cur t fz v hg]
  have ih:=QU k o t fz rest (i + 1) (cur.setIfInBounds (o + i) v) (w.setRow k (cur.setIfInBounds (o + i) v)) (setRow_heap w k cur _ t _ hg) (by simpa using hz) (by simp at hl ⊢;omega) (fun x hx=>h1 x (by simp[hx]))
  simp only[storeCells,Sem.run_bind,ep,Result.andThen_ok,ih,setRow_setRow]
  congr 3
  have e:=list_seg_step cur.toList (o + i) v rest (by simp at hl ⊢;omega)
  simpa [Array.toList_setIfInBounds,Nat.add_assoc] using e
theorem QV {t u ty e:TypeId} {i:TypeInfo} {z:Value} (ht:P.underlying t=some (.slice e)) (hu:u=t∨P.underlying u=some .string) (hi:P.info? e=some i) (hz:i.zero=some z)
  (ba:Option Addr) (de fj:Nat) (x:Value) (m:Nat) (dF news:List Value) (w:World) (hlen:∀ w,(Builtin.lenOf x).run P w=.ok m w)
  (bV:∀ w':World,w'.heap=w.heap→(Builtin.firstCells i.size m x).run P w'=.ok news.toArray w') (hold:∀ w':World,w'.heap=w.heap→(Builtin.firstCells i.size de (.slice ba de fj)).run P w'=.ok dF.toArray w')
  (hg:fj < de + m) (pA:((de + m:Nat):Int)≤9223372036854775807) (hZ:Builtin.nextslicecap (de + m) fj * i.bytes≤281474976710656) :
  (Builtin.append_ #[t,u] ty #[.slice ba de fj,x]).run P w =
   .ok (.slice (some ⟨w.heap.size,0,none⟩) (de + m) (grownCap w (de + m) fj e))
    (w.drew.alloc (.cells (dF.toArray++news.toArray++Builtin.zeroCells z.cells (grownCap w (de + m) fj e - (de + m))) e)):=by
 have hn:¬ (de + m≤fj):=by omega
 have B9:¬ (9223372036854775807 < ((de:Int) + (m:Int))):=by omega
 have Ca:¬ (281474976710656 < Builtin.nextslicecap (de + m) fj * i.bytes):=by omega
 have hf:=bV w.drew rfl
 have QW:=hold w.drew rfl
 rcases hu with rfl|hu
 ·simp[Builtin.append_,run_underlying ht,sizeOf,typeInfo,zeroValue,hi,hz,hlen,hn,B9,Ca,Question.forced,hf,QW,newRow,grownCap]
  congr 2;apply Array.ext';simp
 ·simp[Builtin.append_,run_underlying ht,run_underlying hu,sizeOf,typeInfo,zeroValue,hi,hz,hlen,hn,B9,Ca,Question.forced,hf,QW,newRow,grownCap]
  congr 2;apply Array.ext';simp
theorem QX {t u ty e:TypeId} {i:TypeInfo} (ht:P.underlying t=some (.slice e)) (hu:u=t∨P.underlying u=some .string) (hi:P.info? e=some i)
  (k de fj:Nat) (x:Value) (m:Nat) (news:List Value) (cur:Array Value) (e':TypeId) (fz:Nat × Nat) (w:World) (hlen:∀ w,(Builtin.lenOf x).run P w=.ok m w) (hk:w.heap[k]?=some (.cells cur e' fz)) (m8:fz=(0,0)∨cur.size≤fz.1)
  (bV:∀ w':World,w'.heap=w.heap→(Builtin.firstCells i.size m x).run P w'=.ok news.toArray w') (h1:∀ u ∈ news,u.oneCell'=true)
  (dV:de + m≤fj) (hZ:de * i.size + news.length≤cur.size) :
  (Builtin.append_ #[t,u] ty #[.slice (some ⟨k,0,none⟩) de fj,x]).run P w =
   .ok (.slice (some ⟨k,0,none⟩) (de + m) fj) (w.setRow k (cur.toList.take (de * i.size)++news++cur.toList.drop (de * i.size + news.length)).toArray):=by
 have ep:=QU (P:=P) k (de * i.size) e' fz news 0 cur w hk m8 (by simpa using hZ) h1
 simp only[Nat.add_zero]at ep
 have hf:=bV w rfl
 rcases hu with rfl|hu
 ·simp[Builtin.append_,run_underlying ht,sizeOf,typeInfo,hi,hlen,dV,hf,Addr.add_lit,ep]
 ·simp[Builtin.append_,run_underlying ht,run_underlying hu,sizeOf,typeInfo,hi,hlen,dV,hf,Addr.add_lit,ep]
theorem QY {t u ty e:TypeId} {i:TypeInfo} (ht:P.underlying t=some (.slice e)) (hu:u=t∨P.underlying u=some .string) (hi:P.info? e=some i)
  (ba:Option Addr) (de fj:Nat) (x:Value) (w:World) (hlen:∀ w,(Builtin.lenOf x).run P w=.ok 0 w)
  (bV:∀ w':World,w'.heap=w.heap→(Builtin.firstCells i.size 0 x).run P w'=.ok #[] w') (dV:de≤fj) :
  (Builtin.append_ #[t,u] ty #[.slice ba de fj,x]).run P w=.ok (.slice ba de fj) w:=by
 have hf:=bV w rfl
 rcases hu with rfl|hu
 ·cases ba<;>simp[Builtin.append_,run_underlying ht,sizeOf,typeInfo,hi,hlen,dV,hf,storeCells]
 ·cases ba<;>simp[Builtin.append_,run_underlying ht,run_underlying hu,sizeOf,typeInfo,hi,hlen,dV,hf,storeCells]
def Xe:AV→Nat
 | .isl m _=>m
 | .sl _ _ _ m _=>m
 | .str l=>l.length
 | _=>0
theorem JY (es b o m cc:Nat):Xe (.sl es b o m cc)=m:=rfl
theorem Xuw (m:Nat) (ds:List AV):Xe (.isl m ds)=m:=rfl
theorem Xsk (l:List UInt8):Xe (.str l)=l.length:=rfl
theorem Xly:Xe .nils=0:=rfl
def Xq (s:FS) (es:Nat):AV→List AV
 | .isl m ds=>ds.take (m * es)
 | .sl _ b o m _=>((Yu (s.H b)).drop o).take (m * es)
 | .str l=>Xg l
 | _=>[]
def FI:Value→Prop
 | .slice _ 0 _=>True
 | _=>False
theorem Xk4 {v:Value} (h:FI v):∃ a c,v=.slice a 0 c:=by
 unfold FI at h;split at h
 ·exact ⟨_,_,rfl⟩
 ·exact h.elim
def kY (s:FS) (es:Nat) (str:Bool):AV→Prop
 | .isl m ds=>str=false∧m * es≤ds.length
 | .sl es2 b o m _=>str=false∧es2=es∧o + m * es≤(Yu (s.H b)).length
 | .nils=>str=false
 | .lit v=>str=false∧FI v
 | .str _=>str=true∧es=1
 | _=>False
def jA:AV→Option Nat
 | .sl _ b _ _ _=>some b
 | _=>none
def tF (s:FS) (es:Nat):AV→Prop
 | .sl es2 b o n _=>es2=es∧o=0∧n * es≤(Yu (s.H b)).length∧(s.H b).live
 | .nils=>True
 | _=>False
def FS.cy (s:FS):Option Nat→FS
 | some b=>s.aK b .dead
 | none=>s
theorem Xg0 {s:FS} {b:Nat} {n:Nat} (h:n≤(Yu (s.H b)).length) (hn:0 < n):∃ cs,s.H b=.cells cs:=by
 cases hh:s.H b with
 | cells cs=>exact ⟨cs,rfl⟩
 | _=>rw[hh]at h;simp[Yu]at h;omega
theorem JZ {k o:Nat} {cur:Array Value} {e:TypeId} {fz:Nat × Nat} (hb:w.heap[k]?=some (.cells cur e fz)) {n:Nat} (hn:o + n≤cur.size) :
  ∀ (w':World),w'.heap=w.heap→∀ j v,((cur.toList.drop o).take n)[j]?=some v→w'.cell? ((⟨k,o,none⟩:Addr).add j)=some v:=by
 intro w' hw j v hv
 have dz:(⟨k,o,none⟩:Addr).add j=⟨k,o + j,none⟩:=by unfold Addr.add;split<;>simp_all
 rw[dz]
 rw[List.getElem?_take]at hv
 split at hv
 ·rw[List.getElem?_drop]at hv
  simp only[World.cell?,hw,hb]
  simpa using hv
 ·cases hv
theorem zS (es m:Nat) {a':Option Addr} {len cap:Nat} {vs:List Value} (hl:vs.length=m * es) (h:∀ w':World,w'.heap=w.heap→∀ j v,vs[j]?=some v→∃ a0,a'=some a0∧w'.cell? (a0.add j)=some v) :
  ∀ w':World,w'.heap=w.heap→(Builtin.firstCells es m (.slice a' len cap)).run P w'=.ok vs.toArray w':=by
 intro w' hw
 cases a' with
 | none =>
  cases vs with
  | nil=>simp[Builtin.firstCells]
  | cons v vs=>obtain ⟨a0,h1,_⟩:=h w' hw 0 v rfl;cases h1
 | some a0 =>
  refine run_firstCells_some w' es m a0 len cap vs hl fun j v hj=>?_
  obtain ⟨a1,h1,h2⟩:=h w' hw j v hj
  cases h1;exact h2
theorem FJ (hR:R c g s a w) {es:Nat} {str:Bool} {x:AV} {u:Value} (hx:VR g (Qn c g s) w x u) (ok:kY s es str x) :
  ∃ news:List Value,(∀ w,(Builtin.lenOf u).run P w=.ok (Xe x) w)∧(∀ w':World,w'.heap=w.heap→(Builtin.firstCells es (Xe x) u).run P w'=.ok news.toArray w') ∧
   news.length=Xe x * es∧(Xq s es x).length=Xe x * es∧(∀ v ∈ news,v.oneCell'=true)∧∀ j,j < Xe x * es→VR g (Qn c g s) w ((Xq s es x).getD j .any) (news.getD j undef):=by
 cases x<;>simp only[kY]at ok
 case isl m ds =>
  obtain ⟨rfl,hl⟩:=ok
  obtain ⟨ad,cap,us,rfl,h1,h2,h3,h4⟩:=rU hx
  simp only[Xe]
  have hlen:((List.range (m * es)).map us).length=m * es:=by simp
  have aV:∀ j,j < m * es→((List.range (m * es)).map us).getD j undef=us j:=fun j hj=>by simp[List.getD,hj]
  refine ⟨(List.range (m * es)).map us,fun w=>rfl,zS es m hlen fun w' hw j v hj=>?_,hlen,by simp[Xq];omega,fun v hv=>?_,fun j hj=>?_⟩
  ·obtain ⟨cV,rfl⟩:=List.getElem?_eq_some_iff.1 hj
   rw[hlen]at cV
   obtain ⟨k,o,rfl,h5,_⟩:=h3 j ae
   refine ⟨_,rfl,?_⟩
   have dz:(⟨k,o,none⟩:Addr).add j=⟨k,o + j,none⟩:=by unfold Addr.add;split<;>simp_all
   rw[dz]
   simp only[List.getElem_map,List.getElem_range]
   rw[← h5];unfold Ud World.cell?;simp only[hw]
  ·obtain ⟨j,hj,rfl⟩:=List.mem_map.1 hv
   simp at hj
   obtain ⟨k,o,_,_,_,h6⟩:=h3 j ae
   exact h6
  ·rw[aV j hj]
   have:(Xq s es (.isl m ds)).getD j .any=ds.getD j .any:=by simp[Xq,List.getD,List.getElem?_take,hj]
   rw[this];exact h4 j ae
 case sl es2 b o m cc =>
  obtain ⟨rfl,rfl,hl⟩:=ok
  simp only[Xe]
  rcases po hx with ⟨k,cap,e,cur,fz,rfl,h1,h2,h3,h4,h5,h6⟩|⟨ad,rfl,h1,rfl,rfl⟩
  ·by_cases dS:0 < m * es2
   ·obtain ⟨cs,iw⟩:=Xg0 (s:=s) (b:=b) (n:=o + m * es2) hl ae
    have hb:=hR.h b
    rw[h1,iw]at hb
    cases hb with
    | cells hb iy pB hv hf =>
    rename_i eM e' QZ
    rw[h5]at hb;cases hb
    have hlc:o + m * es2≤cs.length:=by rw[iw]at hl;exact hl
    have hlen:((cur.toList.drop o).take (m * es2)).length=m * es2:=by simp;omega
    have aV:∀ j,j < m * es2→((cur.toList.drop o).take (m * es2)).getD j undef=cur.getD (o + j) undef:=fun j hj=>by simp[List.getD,List.getElem?_take,hj,Array.getD_eq_getD_getElem?]
    refine ⟨(cur.toList.drop o).take (m * es2),fun w=>rfl,zS es2 m hlen fun w' hw j v hj=>⟨_,rfl,JZ h5 ae w' hw j v hj⟩,hlen,by simp[Xq,iw,Yu];omega,fun v hv=>?_,fun j hj=>?_⟩
    ·obtain ⟨j,hj,rfl⟩:=List.getElem_of_mem hv
     rw[hlen]at hj
     have:=pB (o + j) ae
     have hg:=aV j hj
     simp only[List.getD,List.getElem?_eq_getElem (show j < ((cur.toList.drop o).take (m * es2)).length by omega),Option.getD_some]at hg
     rw[hg];exact this
    ·rw[aV j hj]
     have:(Xq s es2 (.sl es2 b o m cc)).getD j .any=cs.getD (o + j) .any:=by simp[Xq,iw,Yu,List.getD,List.getElem?_take,hj]
     rw[this];exact hv _ ae
   ·have hz:m * es2=0:=by omega
    refine ⟨[],fun w=>rfl,zS es2 m (by simp[hz]) fun w' hw j v hj=>by simp at hj,by simp[Xe,hz],by simp[Xe,Xq,hz],fun v hv=>(by cases hv),fun j hj=>ae⟩
  ·refine ⟨[],fun w=>rfl,zS es2 0 au fun w' hw j v hj=>by simp at hj,by simp[Xe],by simp[Xe,Xq],fun v hv=>(by cases hv),fun j hj=>ae⟩
 case lit v =>
  obtain ⟨_,ok⟩:=ok
  obtain ⟨ad,cap,rfl⟩:=Xk4 ok
  have:u=.slice ad 0 cap:=by cases hx;rfl
  subst this
  simp only[Xe]
  refine ⟨[],fun w=>rfl,zS es 0 au fun w' hw j v hj=>by simp at hj,by simp[Xe],by simp[Xe,Xq],fun v hv=>(by cases hv),fun j hj=>ae⟩
 case nils =>
  obtain ⟨ad,rfl⟩:=Fp hx
  simp only[Xe]
  refine ⟨[],fun w=>rfl,zS es 0 au fun w' hw j v hj=>by simp at hj,by simp[Xe],by simp[Xe,Xq],fun v hv=>(by cases hv),fun j hj=>ae⟩
 case str l =>
  obtain ⟨rfl,rfl⟩:=ok
  cases hx
  simp only[Xe]
  refine ⟨l.map fun b=>.int .u8 b.toNat,fun w=>?_,fun w' _=>?_,by simp[Xe],by simp[Xe,Xq,Xg],fun v hv=>?_,fun j hj=>?_⟩
  ·simp[Builtin.lenOf,Xe,ByteArray.size]
  ·have hx:(⟨l.toArray⟩:ByteArray).extract 0 l.length=⟨l.toArray⟩:=by
    have:l.length=(⟨l.toArray⟩:ByteArray).size:=rfl
    rw[this,ByteArray.extract_zero_size]
   simp[Builtin.firstCells,Xe,hx]
  ·obtain ⟨b,_,rfl⟩:=List.mem_map.1 hv;rfl
  ·simp only[Nat.mul_one]at hj
   have e1:(Xq s 1 (.str l)).getD j .any=.int .u8 (l[j]).toNat:=by simp[Xq,Xg,List.getD,hj]
   have e2:(l.map fun b:UInt8=>Value.int .u8 b.toNat).getD j undef=.int .u8 (l[j]).toNat:=by simp[List.getD,hj]
   rw[e1,e2];exact .int _ _
theorem Cb {g:Nat→GM} {b:Nat} {m:GM}:Za g b m b=m:=by simp[Za]
theorem Q0 (hR:R c g s a w) {nm:Nat} (bq:s.H nm=.free) {es N cap:Nat} {e:TypeId} {cs:List AV} {vs:List Value} {zs:Array Value} (hl:vs.length=N * es) (aW:cs.length=N * es) (ku:zs.size=(cap - N) * es) (hN:N≤cap) (hm:cap≤maxLen)
  (h1:∀ v ∈ vs,v.oneCell'=true) (hv:∀ j,j < N * es→VR g (Qn c g s) w (cs.getD j .any) (vs.getD j undef)) :
  ∃ g',R c g' (s.aK nm (.cells cs)) a (w.drew.alloc (.cells (vs.toArray++zs) e))∧VR g' (Qn c g' (s.aK nm (.cells cs))) (w.drew.alloc (.cells (vs.toArray++zs) e)) (.sl es nm 0 N N) (.slice (some ⟨w.heap.size,0,none⟩) N cap):=by
 have pC:R c g s a w.drew:=hR.grow (Fr.drew w _)
 have iq:∀ k,Qn c g s k→k < w.heap.size:=by
  rintro k (h|⟨b',hl,fh⟩)
  ·have:=(hR.xs k h).1;have:=hR.fr.size;omega
  ·exact BR.lt (fh ▸ hR.h b') hl
 have aV:∀ j,j < N * es→(vs.toArray++zs).getD j undef=vs.getD j undef:=fun j hj=>by
  simp[Array.getD_eq_getD_getElem?,List.getD,Array.getElem?_append,hl,hj]
 have bV:=heap_alloc_new w.drew (.cells (vs.toArray++zs) e)
 have bf:=pC.new (b:=nm) (x:=.cells cs) (.cells (vs.toArray++zs) e) bq trivial fun g' fh=>by
  refine .cells (cur:=vs.toArray++zs) (e:=e) (fz:=(0,0)) bV (by simp[hl,aW]) (fun j hj=>?_) (fun j hj=>?_) (.inl rfl)
  ·rw[aV j ae]
   have cV:j < vs.length:=by omega
   simp only[List.getD,List.getElem?_eq_getElem cV,Option.getD_some]
   exact h1 _ (List.getElem_mem cV)
  ·rw[aV j ae]
   exact ((hv j ae).mono (Fr.drew w _) (fun _ _ h=>h) (fun _ _=>rfl)).mono (Fr.alloc w.drew _ _) (fun k hk h=>h.resolve_right (by simp at hk;simp;omega)) fh
 refine ⟨_,bf,.sl (k:=w.heap.size) (e:=e) (cur:=vs.toArray++zs) (fz:=(0,0)) Cb (Nat.le_refl _) hN hm bV ?_⟩
 simp[hl,ku,← Nat.add_mul]
 exact Nat.mul_le_mul_right _ ae
theorem pD {s s':FS} (hT:∀ i,s.T i=s'.T i) (hH:∀ i,s.H i=s'.H i):s=s':=by
 cases s;cases s';congr 1<;>funext i
 ·exact hT i
 ·exact hH i
theorem Q2 {w:World} {k:Nat} {cur new:Array Value} {e:TypeId} {fz:Nat × Nat} (hk:w.heap[k]?=some (.cells cur e fz)) (hs:new.size=cur.size):Fr w (w.setRow k new) (fun i=>i=k) :=
 ⟨rfl,rfl,rfl,by simp[World.setRow],fun i _ bY=>setRow_other w k i new bY,fun i eM e' QZ hi=>by
  by_cases h:i=k
  ·subst h
   rw[hk]at hi;cases hi
   exact ⟨new,setRow_heap w i cur new e fz hk,hs⟩
  ·exact ⟨eM,by rw[setRow_other w k i new h];exact hi,rfl⟩⟩
theorem Q3 (hR:R c g s a w) {nm:Nat} (bq:s.H nm=.free) {t u ty e:TypeId} {i:TypeInfo} {z:Value} {es:Nat} (ht:P.underlying t=some (.slice e)) (hu:u=t∨P.underlying u=some .string) (hi:P.info? e=some i) (hz:i.zero=some z) (dc:i.size=es) (ku:z.cells.size=es)
  (ad:Option Addr) {ux:Value} {m:Nat} {cs:List AV} {news:List Value} (q1:∀ w,(Builtin.lenOf ux).run P w=.ok m w) (q2:∀ w':World,w'.heap=w.heap→(Builtin.firstCells es m ux).run P w'=.ok news.toArray w')
  (q3:news.length=m * es) (q4:cs.length=m * es) (q5:∀ v ∈ news,v.oneCell'=true) (q6:∀ j,j < m * es→VR g (Qn c g s) w (cs.getD j .any) (news.getD j undef)) (pA:m≤maxLen) (qj:m * i.bytes≤140737488355328) :
  ∃ g' v' w',(Builtin.append_ #[t,u] ty #[.slice ad 0 0,ux]).run P w=.ok v' w'∧R c g' (s.aK nm (.cells cs)) a w'∧VR g' (Qn c g' (s.aK nm (.cells cs))) w' (.sl es nm 0 m m) v':=by
 by_cases hm:m=0
 ·subst hm
  have hn:news=[]:=List.eq_nil_of_length_eq_zero ae
  have hc:cs=[]:=List.eq_nil_of_length_eq_zero ae
  subst hn hc
  exact ⟨_,_,_,QY ht hu hi ad 0 0 ux w q1 (by rw[dc];exact q2) (Nat.le_refl _),hR.ng bq,.kq Cb rfl⟩
 ·have hr:=QV (ty:=ty) (P:=P) ht hu hi hz ad 0 0 ux m [] news w q1 (by rw[dc];exact q2) (fun w' _=>by cases ad<;>simp[Builtin.firstCells,loadCells,loadCellsFrom]) (by omega) (by simp only[maxLen]at pA;omega) (growslice_fits (by omega) (by simpa using qj))
  simp only[Nat.zero_add,List.nil_append]at hr
  have iq:=Iu w m 0 e
  obtain ⟨g',h1,h2⟩:=Q0 (es:=es) (N:=m) (cap:=grownCap w m 0 e) (e:=e) (zs:=Builtin.zeroCells z.cells (grownCap w m 0 e - m)) hR bq q3 q4 (by rw[size_zeroCells,ku]) iq (grownCap_le_maxLen w m 0 e pA) q5 q6
  exact ⟨g',_,_,by rw[hr];simp,h1,h2⟩
theorem Xsm (hR:R c g s a w) {nm:Nat} (bq:s.H nm=.free) {t u ty e:TypeId} {i:TypeInfo} {z:Value} {es:Nat} (ht:P.underlying t=some (.slice e)) (hu:u=t∨P.underlying u=some .string) (hi:P.info? e=some i) (hz:i.zero=some z) (dc:i.size=es) (ku:z.cells.size=es)
  {vb vx:AV} {ub ux:Value} {str:Bool} (hb:VR g (Qn c g s) w vb ub) (hx:VR g (Qn c g s) w vx ux) (FK:tF s es vb) (xc:kY s es str vx) (pA:Xe vb + Xe vx≤maxLen) (qj:(Xe vb + Xe vx) * i.bytes≤140737488355328) :
  ∃ g' v' w',(Builtin.append_ #[t,u] ty #[ub,ux]).run P w=.ok v' w'∧R c g' ((s.cy (jA vb)).aK nm (.cells (Xq s es vb++Xq s es vx))) a w' ∧
   VR g' (Qn c g' ((s.cy (jA vb)).aK nm (.cells (Xq s es vb++Xq s es vx)))) w' (.sl es nm 0 (Xe vb + Xe vx) (Xe vb + Xe vx)) v':=by
 obtain ⟨news,q1,q2,q3,q4,q5,q6⟩:=FJ (P:=P) hR hx xc
 cases vb<;>simp only[tF]at FK
 case nils =>
  obtain ⟨ad,rfl⟩:=Fp hb
  simp only[Xe,Xq,jA,FS.cy,Nat.zero_add,List.nil_append]at pA qj ⊢
  exact Q3 hR bq ht hu hi hz dc ku ad q1 q2 q3 q4 q5 q6 pA qj
 case sl es2 b o n cc =>
  obtain ⟨rfl,rfl,hl,aO⟩:=FK
  have bY:nm≠b:=fun h=>by subst h;rw[bq]at aO;exact aO
  have b9:g b≠.un:=fun h=>by
   have:=hR.h b;rw[h]at this
   exact this.fW aO
  have jm:(s.aK b .dead).H nm=.free:=by rw[FS.bb,if_neg fun h=>bY h.symm,bq]
  have nh:=hR.kill b9
  have hWk:∀ k,Qn c g (s.aK b .dead) k→Qn c g s k:=E9
  obtain ⟨dF,o1,o2,o3,o4,o5,o6⟩:=FJ (P:=P) (str:=false) hR hb (x:=.sl es2 b 0 n cc) ⟨rfl,rfl,by simpa using hl⟩
  have Cc:∀ {x:AV} {y:Value},VR g (Qn c g s) w x y→VR g (Qn c g (s.aK b .dead)) w x y:=fun h=>h.mono (Fr.refl _ _) (fun k _=>hWk k) (fun _ _=>rfl)
  simp only[JY]at pA qj o1 o2 o3 o4 o6 ⊢
  simp only[jA,FS.cy]
  rcases po hb with ⟨k,cap,e',cur,fz,rfl,h1,h2,h3,h4,h5,h6⟩|⟨ad,rfl,h1,rfl,rfl⟩
  ·have hlen:(dF++news).length=(n + Xe vx) * es2:=by rw[List.length_append,o3,q3,Nat.add_mul]
   have vr:(Xq s es2 (.sl es2 b 0 n cc)++Xq s es2 vx).length=(n + Xe vx) * es2:=by rw[List.length_append,o4,q4,Nat.add_mul]
   have wT:∀ v ∈ dF++news,v.oneCell'=true:=fun v hv=>(List.mem_append.1 hv).elim (o5 v) (q5 v)
   have FL:∀ j,j < (n + Xe vx) * es2→VR g (Qn c g s) w ((Xq s es2 (.sl es2 b 0 n cc)++Xq s es2 vx).getD j .any) ((dF++news).getD j undef):=fun j hj=>by
    by_cases kV:j < n * es2
    ·have:=o6 j kV
     simp only[List.getD,List.getElem?_append_left (show j < (Xq s es2 (.sl es2 b 0 n cc)).length by omega),List.getElem?_append_left (show j < dF.length by omega)]at this ⊢
     exact this
    ·have:=q6 (j - n * es2) (by rw[Nat.add_mul]at hj;omega)
     simp only[List.getD,List.getElem?_append_right (show (Xq s es2 (.sl es2 b 0 n cc)).length≤j by omega),List.getElem?_append_right (show dF.length≤j by omega),o3,o4]at this ⊢
     exact this
   by_cases dV:n + Xe vx≤cap
   ·-- in place
    have di:=hR.h b
    rw[h1]at di
    have m8:fz=(0,0)∨cur.size≤fz.1:=by
     cases hh:s.H b with
     | cells cs=>rw[hh]at di;cases di with|cells bH _ _ _ hf=>rw[h5]at bH;cases bH;exact hf
     | aC kvs dn=>rw[hh]at di;cases di with|aC bH=>rw[h5]at bH;cases bH
     | bn kvs bs ck=>rw[hh]at di;cases di with|bn bH=>rw[h5]at bH;cases bH
     | iter b0 ck seen=>rw[hh]at di;cases di with|iter bH=>rw[h5]at bH;cases bH
     | dd ls=>rw[hh]at di;cases di with|dd _ h'=>cases h' with|cells bH _ _ _ hf=>rw[h5]at bH;cases bH;exact hf
     | free=>rw[hh]at aO;exact aO.elim
     | dead=>rw[hh]at aO;exact aO.elim
    have hmul:(n + Xe vx) * es2≤cap * es2:=Nat.mul_le_mul_right _ dV
    have hZ:n * i.size + news.length≤cur.size:=by rw[dc,q3,← Nat.add_mul];omega
    have hr:=QX (ty:=ty) (P:=P) ht hu hi k n cap ux (Xe vx) news cur e' fz w q1 h5 m8 (by rw[dc];exact q2) q5 dV hZ
    rw[dc]at hr
    have holds:dF=cur.toList.take (n * es2):=by
     have a1:=o2 w rfl
     have a2:=run_firstCells_some (P:=P) w es2 n ⟨k,0,none⟩ n cap (cur.toList.take (n * es2)) (by simp;have:=Nat.mul_le_mul_right es2 (Nat.le_trans h2 h3);omega) (by have:=JZ h5 (o:=0) (n:=n * es2) (by have:=Nat.mul_le_mul_right es2 (Nat.le_trans h2 h3);omega) w rfl;simpa using this)
     rw[a1]at a2
     simpa using a2
    have cJ:(cur.toList.take (n * es2)++news++cur.toList.drop (n * es2 + news.length)).toArray.size=cur.size:=by
     have:n * es2≤cur.size:=by have:=Nat.mul_le_mul_right es2 (Nat.le_trans h2 h3);omega
     rw[dc]at hZ
     simp;omega
    have aV:∀ j,j < (n + Xe vx) * es2→(cur.toList.take (n * es2)++news++cur.toList.drop (n * es2 + news.length)).toArray.getD j undef=(dF++news).getD j undef:=fun j hj=>by
     rw[← holds]
     simp only[Array.getD_eq_getD_getElem?,List.getD,List.getElem?_toArray]
     rw[List.getElem?_append_left ae]
    have hf:=Q2 (new:=(cur.toList.take (n * es2)++news++cur.toList.drop (n * es2 + news.length)).toArray) h5 cJ
    have vt:Qn c g s k:=.inr ⟨b,aO,h1⟩
    have br:=hR.setBlock (x:=.cells (Xq s es2 (.sl es2 b 0 n cc)++Xq s es2 vx)) h1 aO trivial hf (by
     refine .cells (cur:=(cur.toList.take (n * es2)++news++cur.toList.drop (n * es2 + news.length)).toArray) (e:=e') (fz:=fz) (setRow_heap w k cur _ e' fz h5) ae (fun j hj=>?_) (fun j hj=>?_) (by rw[cJ];exact m8)
     ·rw[aV j ae]
      have cV:j < (dF++news).length:=by omega
      simp only[List.getD,List.getElem?_eq_getElem cV,Option.getD_some]
      exact wT _ (List.getElem_mem cV)
     ·rw[aV j ae]
      exact (FL j ae).mono (hf.weak fun i hi=>hi ▸ vt) (fun _ _ h=>h) (fun _ _=>rfl))
    have Q4:=br.move (b:=b) (b':=nm) (by rw[FS.bb,if_pos rfl];trivial) (by rw[FS.bb,if_neg fun h=>bY h.symm,bq])
    have jl:((s.aK b (.cells (Xq s es2 (.sl es2 b 0 n cc)++Xq s es2 vx))).aK b .dead).aK nm ((s.aK b (.cells (Xq s es2 (.sl es2 b 0 n cc)++Xq s es2 vx))).H b)=(s.aK b .dead).aK nm (.cells (Xq s es2 (.sl es2 b 0 n cc)++Xq s es2 vx)):=by
     refine pD (fun _=>rfl) fun j=>?_
     simp only[FS.bb,if_pos]
     split
     ·rfl
     ·split<;>rfl
    rw[jl]at Q4
    refine ⟨_,_,_,hr,Q4,.sl (k:=k) (e:=e') (fz:=fz) (by rw[Cb];exact h1) (Nat.le_refl _) dV h4 (setRow_heap w k cur _ e' fz h5) (by rw[cJ];exact h6)⟩
   ·have iq:=Iu w (n + Xe vx) cap e
    have hr:=QV (ty:=ty) (P:=P) ht hu hi hz (some ⟨k,0,none⟩) n cap ux (Xe vx) dF news w q1 (by rw[dc];exact q2) (by rw[dc];exact fun w' hw=>by simpa [Builtin.firstCells] using o2 w' hw) ae (by simp only[maxLen]at pA;omega) (growslice_fits ae qj)
    obtain ⟨g',e1,e2⟩:=Q0 (es:=es2) (N:=n + Xe vx) (cap:=grownCap w (n + Xe vx) cap e) (e:=e) (zs:=Builtin.zeroCells z.cells (grownCap w (n + Xe vx) cap e - (n + Xe vx))) nh jm hlen vr (by rw[size_zeroCells,ku]) iq (grownCap_le_maxLen w _ _ e pA) wT (fun j hj=>Cc (FL j hj))
    exact ⟨g',_,_,by rw[hr];simp,e1,e2⟩
  ·have vu:dF=[]:=List.eq_nil_of_length_eq_zero ae
   have aW:Xq s es2 (.sl es2 b 0 0 0)=[]:=List.eq_nil_of_length_eq_zero ae
   rw[aW]
   simp only[Nat.zero_add,List.nil_append]at pA qj ⊢
   exact Q3 nh jm ht hu hi hz dc ku ad q1 q2 q3 q4 q5 (fun j hj=>Cc (q6 j hj)) pA qj
end
end Go.Proofs.YtogckmommodmhaaGreatDoor
