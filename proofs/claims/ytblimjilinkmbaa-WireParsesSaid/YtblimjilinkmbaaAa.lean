/- Abstract values, what they say of real ones in a world, and what of that stays when the world goes on. No conditions but the ones that stand in each. -/
import Derived.WalkKit
import Derived.WalkSpells
import Derived.WalkLawsBesides
import Derived.Laws.AppendOwn
import Derived.Below
namespace Go.Proofs.Ytblimjilinkmbaa
set_option linter.all false
set_option linter.unusedSimpArgs false
open Go.RowKit

/-- A value as a walk knows it: 'ptr', 'sl' point into blocks that have names; 'xp', 'isl' into memory that nobody writes. -/
inductive AV where
  | any
  | cnd (b : Bool) (v : AV)
  | int (k : IntKind) (n : Int)
  | bool (b : Bool)
  | str (l : List UInt8)
  | agg (cs : List AV)
  | tup (vs : List AV)
  | ptr (b off : Nat)
  | xp (cs : List AV) (off : Nat)
  | sl (es b off n c : Nat)
  | isl (n : Nat) (cs : List AV)
  | nils
  | cl (f : FuncId) (caps : List AV)
  | mp (b : Nat)
  | lit (v : Value)
  deriving Inhabited

/-- Where a name's block is. -/
inductive GM where
  | un
  | ph
  | re (k : Nat)

abbrev cellOf (w : World) (k o : Nat) : Option Value := w.cell? ⟨k, o, none⟩

inductive VR (g : Nat → GM) (W : Nat → Prop) (w : World) : AV → Value → Prop
  | any (v : Value) : VR g W w .any v
  | cnd {b : Bool} {x : AV} {v : Value} (h : b = true → VR g W w x v) (h0 : b = false → v = undef) : VR g W w (.cnd b x) v
  | int (k : IntKind) (n : Int) : VR g W w (.int k n) (.int k n)
  | bool (b : Bool) : VR g W w (.bool b) (.bool b)
  | str (l : List UInt8) : VR g W w (.str l) (.string ⟨l.toArray⟩)
  | agg {cs : List AV} {us : Array Value} (hs : us.size = cs.length) (h1 : ∀ j, j < cs.length → (us.getD j undef).oneCell' = true) (h : ∀ j, j < cs.length → VR g W w (cs.getD j .any) (us.getD j undef)) : VR g W w (.agg cs) (.agg us)
  | tup {cs : List AV} {us : Array Value} (hs : us.size = cs.length) (h : ∀ j, j < cs.length → VR g W w (cs.getD j .any) (us.getD j undef)) : VR g W w (.tup cs) (.tuple us)
  | ptr {b off k : Nat} (hg : g b = .re k) : VR g W w (.ptr b off) (.pointer (some ⟨k, off, none⟩))
  | xp {cs : List AV} {off k o : Nat} {us : Nat → Value} (hc : ∀ j, j < cs.length → cellOf w k (o + j) = some (us j) ∧ ¬ W k ∧ (us j).oneCell' = true) (h : ∀ j, j < cs.length → VR g W w (cs.getD j .any) (us j)) :
      VR g W w (.xp cs off) (.pointer (some ⟨k, o + off, none⟩))
  | sl {es b off n c k cap : Nat} {e : TypeId} {cur : Array Value} {fz : Nat × Nat} (hg : g b = .re k) (hn : n ≤ c) (hc : c ≤ cap) (hm : cap ≤ maxLen)
      (hb : w.heap[k]? = some (.cells cur e fz)) (hs : off + cap * es ≤ cur.size) : VR g W w (.sl es b off n c) (.slice (some ⟨k, off, none⟩) n cap)
  | slp {a : Option Addr} {es b off c : Nat} (hg : g b = .ph) (hc : c = 0) : VR g W w (.sl es b off 0 c) (.slice a 0 0)
  | isl {n cap : Nat} {cs : List AV} {a : Option Addr} {us : Nat → Value} (hn : n ≤ cap) (hm : cap ≤ maxLen)
      (hc : ∀ j, j < cs.length → ∃ k o, a = some ⟨k, o, none⟩ ∧ cellOf w k (o + j) = some (us j) ∧ ¬ W k ∧ (us j).oneCell' = true) (h : ∀ j, j < cs.length → VR g W w (cs.getD j .any) (us j)) :
      VR g W w (.isl n cs) (.slice a n cap)
  | nils (a : Option Addr) : VR g W w .nils (.slice a 0 0)
  | cl {f : FuncId} {caps : List AV} {us : Array Value} (hs : us.size = caps.length) (h : ∀ j, j < caps.length → VR g W w (caps.getD j .any) (us.getD j undef)) : VR g W w (.cl f caps) (.func (.func f) #[] us)
  | mp {b k : Nat} (hg : g b = .re k) : VR g W w (.mp b) (.map (some k))
  | lit (v : Value) : VR g W w (.lit v) v

/-- What stays of a world when it goes on: blocks keep their kind and size; those outside of G keep all. -/
structure Fr (w w' : World) (G : Nat → Prop) : Prop where
  os : w'.os = w.os
  tape : w'.tape = w.tape
  output : w'.output = w.output
  size : w.heap.size ≤ w'.heap.size
  keep : ∀ k, k < w.heap.size → ¬ G k → w'.heap[k]? = w.heap[k]?
  kind : ∀ (k : Nat) (cur : Array Value) (e : TypeId) (fz : Nat × Nat), w.heap[k]? = some (.cells cur e fz) → ∃ cur' : Array Value, w'.heap[k]? = some (.cells cur' e fz) ∧ cur'.size = cur.size

theorem heap_lt {w : World} {k : Nat} {o : Obj} (h : w.heap[k]? = some o) : k < w.heap.size := (Array.getElem?_eq_some_iff.1 h).1
theorem cellOf_lt {w : World} {k o : Nat} {v : Value} (h : cellOf w k o = some v) : k < w.heap.size := by
  unfold cellOf World.cell? at h
  split at h
  · rename_i hh; exact heap_lt hh
  · cases h
theorem Fr.refl (w : World) (G : Nat → Prop) : Fr w w G := ⟨rfl, rfl, rfl, Nat.le_refl _, fun _ _ _ => rfl, fun _ cur _ _ h => ⟨cur, h, rfl⟩⟩
theorem Fr.trans {a b c : World} {G H : Nat → Prop} (h : Fr a b G) (k : Fr b c H) (hH : ∀ i, i < a.heap.size → H i → G i) : Fr a c G :=
  ⟨k.os.trans h.os, k.tape.trans h.tape, k.output.trans h.output, Nat.le_trans h.size k.size,
    fun i hi hG => (k.keep i (Nat.lt_of_lt_of_le hi h.size) (fun x => hG (hH i hi x))).trans (h.keep i hi hG),
    fun i cur e fz hi => by
      obtain ⟨c1, h1, s1⟩ := h.kind i cur e fz hi
      obtain ⟨c2, h2, s2⟩ := k.kind i c1 e fz h1
      exact ⟨c2, h2, s2.trans s1⟩⟩
theorem Fr.weak {a b : World} {G H : Nat → Prop} (h : Fr a b G) (hH : ∀ i, G i → H i) : Fr a b H :=
  ⟨h.os, h.tape, h.output, h.size, fun i hi hG => h.keep i hi (fun x => hG (hH i x)), h.kind⟩
theorem Fr.drew (w : World) (G : Nat → Prop) : Fr w w.drew G := ⟨rfl, rfl, rfl, Nat.le_refl _, fun _ _ _ => rfl, fun _ cur _ _ h => ⟨cur, h, rfl⟩⟩
theorem Fr.alloc (w : World) (o : Obj) (G : Nat → Prop) : Fr w (w.alloc o) G :=
  ⟨rfl, rfl, rfl, by simp, fun k hk _ => Below.heap_alloc w o k hk, fun k cur e fz h => ⟨cur, by rw [Below.heap_alloc w o k (heap_lt h)]; exact h, rfl⟩⟩
theorem Fr.cell {w w' : World} {G : Nat → Prop} (h : Fr w w' G) {k o : Nat} {v : Value} (hc : cellOf w k o = some v) (hG : ¬ G k) : cellOf w' k o = some v := by
  have := h.keep k (cellOf_lt hc) hG
  rw [← hc]
  unfold cellOf World.cell?
  simp only [this]

theorem VR.mono {g g' : Nat → GM} {W W' : Nat → Prop} {w w' : World} {x : AV} {v : Value} (h : VR g W w x v) (hf : Fr w w' W)
    (hW : ∀ k, k < w.heap.size → W' k → W k) (hg : ∀ b, g b ≠ .un → g' b = g b) : VR g' W' w' x v := by
  have hre : ∀ {b k}, g b = .re k → g' b = .re k := fun {b k} e => by rw [hg b (by rw [e]; intro x; cases x), e]
  induction h with
  | any v => exact .any v
  | cnd h h0 ih => exact .cnd ih h0
  | int k n => exact .int k n
  | bool b => exact .bool b
  | str l => exact .str l
  | agg hs h1 h ih => exact .agg hs h1 ih
  | tup hs h ih => exact .tup hs ih
  | ptr e => exact .ptr (hre e)
  | xp hc h ih => exact .xp (fun j hj => ⟨hf.cell (hc j hj).1 (hc j hj).2.1, fun x => (hc j hj).2.1 (hW _ (cellOf_lt (hc j hj).1) x), (hc j hj).2.2⟩) ih
  | sl e hn hc hm hb hs =>
    obtain ⟨cur', hb', hs'⟩ := hf.kind _ _ _ _ hb
    exact .sl (hre e) hn hc hm hb' (by rw [hs']; exact hs)
  | slp e hc => exact .slp (by rw [hg _ (by rw [e]; intro x; cases x), e]) hc
  | isl hn hm hc h ih =>
    refine .isl hn hm (fun j hj => ?_) ih
    obtain ⟨k, o, ha, hcc, hnw, h1⟩ := hc j hj
    exact ⟨k, o, ha, hf.cell hcc hnw, fun x => hnw (hW k (cellOf_lt hcc) x), h1⟩
  | nils a => exact .nils a
  | cl hs h ih => exact .cl hs ih
  | mp e => exact .mp (hre e)
  | lit v => exact .lit v

/-- What a walk knows of a block that has a name. -/
inductive Bk where
  | free
  | dead
  | cells (cs : List AV)
  | mapb (kvs : List (AV × AV))
  deriving Inhabited

def Bk.live : Bk → Prop
  | .cells _ | .mapb _ => True
  | _ => False

inductive BR (g : Nat → GM) (W : Nat → Prop) (w : World) : GM → Bk → Prop
  | free : BR g W w .un .free
  | dead {m : GM} (h : m ≠ .un) : BR g W w m .dead
  | ph : BR g W w .ph (.cells [])
  | cells {k : Nat} {cs : List AV} {cur : Array Value} {e : TypeId} {fz : Nat × Nat} (hb : w.heap[k]? = some (.cells cur e fz)) (hl : cs.length ≤ cur.size)
      (h1 : ∀ j, j < cs.length → (cur.getD j undef).oneCell' = true) (hv : ∀ j, j < cs.length → VR g W w (cs.getD j .any) (cur.getD j undef)) (hf : fz = (0, 0) ∨ cur.size ≤ fz.1) : BR g W w (.re k) (.cells cs)
  | mapb {k : Nat} {kvs : List (AV × AV)} {es : Array MapEntry} {clock : Nat} (hb : w.heap[k]? = some (.map es clock)) (hs : es.size = kvs.length)
      (hk : ∀ j, j < kvs.length → VR g W w (kvs.getD j (.any, .any)).1 (es.getD j default).key) (hv : ∀ j, j < kvs.length → VR g W w (kvs.getD j (.any, .any)).2 (es.getD j default).val)
      (hc : ∀ j, j < es.size → (es.getD j default).born < clock) (ha : ∀ i j, i < j → j < es.size → (es.getD i default).born < (es.getD j default).born) : BR g W w (.re k) (.mapb kvs)

/-- What was known of a block stays known while others turn. -/
theorem BR.mono {g g' : Nat → GM} {W W' : Nat → Prop} {w w' : World} {m : GM} {x : Bk} (h : BR g W w m x) (hf : Fr w w' W)
    (hW : ∀ k, k < w.heap.size → W' k → W k) (hg : ∀ b, g b ≠ .un → g' b = g b) (hk : ∀ k, m = .re k → x.live → w'.heap[k]? = w.heap[k]?) : BR g' W' w' m x := by
  cases h with
  | free => exact .free
  | dead h => exact .dead h
  | ph => exact .ph
  | cells hb hl h1 hv hz => exact .cells ((hk _ rfl trivial).trans hb) hl h1 (fun j hj => (hv j hj).mono hf hW hg) hz
  | mapb hb hs hkk hv hc ha => exact .mapb ((hk _ rfl trivial).trans hb) hs (fun j hj => (hkk j hj).mono hf hW hg) (fun j hj => (hv j hj).mono hf hW hg) hc ha

/-! ### States -/
/-- What a walk knows: of each slot, of each name. -/
structure FS where
  T : Nat → AV
  H : Nat → Bk
def FS.put (s : FS) (d : Nat) (v : AV) : FS := ⟨fun i => if d = i then v else s.T i, s.H⟩
def FS.putB (s : FS) (b : Nat) (x : Bk) : FS := ⟨s.T, fun i => if b = i then x else s.H i⟩
theorem FS.T_put (s : FS) (d : Nat) (v : AV) (i : Nat) : (s.put d v).T i = if d = i then v else s.T i := rfl
theorem FS.H_put (s : FS) (d : Nat) (v : AV) (b : Nat) : (s.put d v).H b = s.H b := rfl
theorem FS.T_putB (s : FS) (b : Nat) (x : Bk) (i : Nat) : (s.putB b x).T i = s.T i := rfl
theorem FS.H_putB (s : FS) (b : Nat) (x : Bk) (i : Nat) : (s.putB b x).H i = if b = i then x else s.H i := rfl
/-- The same, as lists. -/
structure St where
  t : List (Nat × AV)
  h : List (Nat × Bk)
  n : Nat
def look : List (Nat × AV) → Nat → AV
  | [], _ => .any
  | (i, v) :: l, j => bif i == j then v else look l j
/-- Names below n that are not listed are given up, the others free. -/
def lookb : List (Nat × Bk) → Nat → Nat → Bk
  | [], n, j => if j < n then .dead else .free
  | (i, v) :: l, n, j => bif i == j then v else lookb l n j
def St.fs (s : St) : FS := ⟨look s.t, lookb s.h s.n⟩
def St.put (s : St) (d : Nat) (v : AV) : St := ⟨(d, v) :: s.t, s.h, s.n⟩
def St.putB (s : St) (b : Nat) (x : Bk) : St := ⟨s.t, (b, x) :: s.h, s.n⟩
/-- The next name is given to a block. -/
def St.nw (s : St) (x : Bk) : St := ⟨s.t, (s.n, x) :: s.h, s.n + 1⟩
theorem look_cons (i : Nat) (v : AV) (l : List (Nat × AV)) (j : Nat) : look ((i, v) :: l) j = if i = j then v else look l j := by
  show (bif i == j then v else look l j) = _
  by_cases h : i = j
  · subst h; simp
  · have : (i == j) = false := by simpa using h
    rw [this, if_neg h]; rfl
theorem lookb_cons (i : Nat) (v : Bk) (l : List (Nat × Bk)) (n j : Nat) : lookb ((i, v) :: l) n j = if i = j then v else lookb l n j := by
  show (bif i == j then v else lookb l n j) = _
  by_cases h : i = j
  · subst h; simp
  · have : (i == j) = false := by simpa using h
    rw [this, if_neg h]; rfl
theorem St.fs_put (s : St) (d : Nat) (v : AV) : (s.put d v).fs = s.fs.put d v := by
  simp only [St.fs, St.put, FS.put]; congr 1; funext i; rw [look_cons]
theorem St.fs_putB (s : St) (b : Nat) (x : Bk) : (s.putB b x).fs = s.fs.putB b x := by
  simp only [St.fs, St.putB, FS.putB]; congr 1; funext i; rw [lookb_cons]
theorem lookb_up (h : List (Nat × Bk)) (n j : Nat) (hj : j ≠ n) : lookb h (n + 1) j = lookb h n j := by
  induction h with
  | nil =>
    unfold lookb
    by_cases h : j < n
    · rw [if_pos h, if_pos (by omega)]
    · rw [if_neg h, if_neg (by omega)]
  | cons p l ih => obtain ⟨i, v⟩ := p; rw [lookb_cons, lookb_cons, ih]
theorem St.fs_nw (s : St) (x : Bk) : (s.nw x).fs = s.fs.putB s.n x := by
  simp only [St.fs, St.nw, FS.putB]; congr 1; funext i; rw [lookb_cons]
  by_cases h : s.n = i
  · rw [if_pos h, if_pos h]
  · rw [if_neg h, if_neg h, lookb_up _ _ _ fun e => h e.symm]

/-- One call: how many slots its frame has, the world that it began in, the blocks that it may write, and those of others. -/
structure Cx where
  N : Nat
  w0 : World
  G : Nat → Prop
  X : Nat → Prop
  gl : Nat → AV
  gh : List (Nat × GM)

/-- The blocks that may be written by somebody. -/
def wset (c : Cx) (g : Nat → GM) (s : FS) (k : Nat) : Prop := c.X k ∨ ∃ b, (s.H b).live ∧ g b = .re k

structure R (c : Cx) (g : Nat → GM) (s : FS) (a : Act) (w : World) : Prop where
  size : a.tmps.size = c.N
  def_ : a.defers = []
  t : ∀ i, VR g (wset c g s) w (s.T i) (a.tmps.getD i undef)
  gl : ∀ i, VR (fun _ => .un) (wset c g s) w (c.gl i) (.pointer (some ⟨i, 0, none⟩))
  h : ∀ b, BR g (wset c g s) w (g b) (s.H b)
  inj : ∀ b b' k, (s.H b).live → (s.H b').live → g b = .re k → g b' = .re k → b = b'
  old : ∀ b k, (s.H b).live → g b = .re k → c.w0.heap.size ≤ k ∨ c.G k
  fr : Fr c.w0 w c.G
  xs : ∀ k, c.X k → k < c.w0.heap.size ∧ ¬ c.G k
  pin : ∀ p ∈ c.gh, g p.1 = p.2 ∧ p.2 ≠ .un

theorem BR.lt {g : Nat → GM} {W : Nat → Prop} {w : World} {k : Nat} {x : Bk} (h : BR g W w (.re k) x) (hl : x.live) : k < w.heap.size := by
  cases h with
  | dead h => exact hl.elim
  | cells hb => exact heap_lt hb
  | mapb hb => exact heap_lt hb

section
variable {c : Cx} {g : Nat → GM} {s : FS} {a : Act} {w w' : World}

theorem R.put (hR : R c g s a w) {d : Nat} (hd : d < c.N) {x : AV} {v : Value} (h : VR g (wset c g s) w x v) : R c g (s.put d x) (a.put (some d) v) w := by
  have hW : wset c g (s.put d x) = wset c g s := rfl
  refine ⟨by simpa [Act.put] using hR.size, by simpa [Act.put] using hR.def_, fun i => ?_, hR.gl, hR.h, hR.inj, hR.old, hR.fr, hR.xs, hR.pin⟩
  rw [hW, FS.T_put]
  simp only [Act.put]
  by_cases hi : d = i
  · subst hi
    rw [if_pos rfl]
    have : (a.tmps.setIfInBounds d v).getD d undef = v := by simp [Array.getD, hR.size, hd]
    rw [this]; exact h
  · rw [if_neg hi]
    have : (a.tmps.setIfInBounds d v).getD i undef = a.tmps.getD i undef := by
      simp only [Array.getD_eq_getD_getElem?, Array.getElem?_setIfInBounds]
      rw [if_neg hi]
    rw [this]; exact hR.t i
theorem R.putNone (hR : R c g s a w) (v : Value) : R c g s (a.put none v) w := hR

/-- The world grows: nothing that has a name, nothing of others has turned. -/
theorem R.grow (hR : R c g s a w) (hf : Fr w w' (fun _ => False)) : R c g s a w' := by
  have hf' : Fr w w' (wset c g s) := hf.weak fun _ h => h.elim
  refine ⟨hR.size, hR.def_, fun i => (hR.t i).mono hf' (fun _ _ h => h) (fun _ _ => rfl), fun i => (hR.gl i).mono hf' (fun _ _ h => h) (fun _ _ => rfl), fun b => ?_, hR.inj, hR.old, hR.fr.trans hf fun _ _ h => h.elim, hR.xs, hR.pin⟩
  refine (hR.h b).mono hf' (fun _ _ h => h) (fun _ _ => rfl) fun k hk hl => hf.keep k ?_ id
  exact BR.lt (hk ▸ hR.h b) hl

theorem wset_putB_dead {b : Nat} : ∀ k, wset c g (s.putB b .dead) k → wset c g s k := by
  rintro k (h | ⟨b', hl, hg⟩)
  · exact .inl h
  · rw [FS.H_putB] at hl
    split at hl
    · exact hl.elim
    · exact .inr ⟨b', hl, hg⟩

/-- A name is given up. -/
theorem R.kill (hR : R c g s a w) {b : Nat} (hb : g b ≠ .un) : R c g (s.putB b .dead) a w := by
  have hW := fun k (_ : k < w.heap.size) => wset_putB_dead (c := c) (g := g) (s := s) (b := b) k
  have hf := Fr.refl w (wset c g s)
  have hl : ∀ b', ((s.putB b .dead).H b').live → (s.H b').live := fun b' h => by
    rw [FS.H_putB] at h; split at h
    · exact h.elim
    · exact h
  refine ⟨hR.size, hR.def_, fun i => (hR.t i).mono hf hW (fun _ _ => rfl), fun i => (hR.gl i).mono hf hW (fun _ _ => rfl), fun b' => ?_, fun x y k hx hy => hR.inj x y k (hl x hx) (hl y hy), fun x k hx => hR.old x k (hl x hx), hR.fr, hR.xs, hR.pin⟩
  rw [FS.H_putB]
  split
  · rename_i e; subst e; exact .dead hb
  · exact (hR.h b').mono hf hW (fun _ _ => rfl) fun _ _ _ => rfl

/-- Whatever a live block says of others, in the world in which it alone turned. -/
theorem R.setBlock (hR : R c g s a w) {b k : Nat} {x : Bk} (hb : g b = .re k) (hlive : (s.H b).live) (hx : x.live) (hf : Fr w w' (fun i => i = k)) (hn : BR g (wset c g s) w' (.re k) x) : R c g (s.putB b x) a w' := by
  have hlv : ∀ b', ((s.putB b x).H b').live ↔ (s.H b').live := fun b' => by
    rw [FS.H_putB]; split
    · rename_i e; subst e; exact ⟨fun _ => hlive, fun _ => hx⟩
    · exact Iff.rfl
  have hW : wset c g (s.putB b x) = wset c g s := by
    funext i; simp only [wset, hlv]
  have hk : wset c g s k := .inr ⟨b, hlive, hb⟩
  have hf' : Fr w w' (wset c g s) := hf.weak fun i e => e ▸ hk
  have hlt : k < w.heap.size := BR.lt (hb ▸ hR.h b) hlive
  refine ⟨hR.size, hR.def_, fun i => ?_, fun i => ?_, fun b' => ?_, fun x y k hx hy => hR.inj x y k ((hlv x).1 hx) ((hlv y).1 hy), fun x k hx => hR.old x k ((hlv x).1 hx), hR.fr.trans hf fun i hi e => ?_, hR.xs, hR.pin⟩
  · rw [hW]; exact (hR.t i).mono hf' (fun _ _ h => h) (fun _ _ => rfl)
  · rw [hW]; exact (hR.gl i).mono hf' (fun _ _ h => h) (fun _ _ => rfl)
  · rw [hW, FS.H_putB]
    split
    · rename_i e; subst e; rw [hb]; exact hn
    · rename_i e
      refine (hR.h b').mono hf' (fun _ _ h => h) (fun _ _ => rfl) fun i hi hl => hf.keep i ?_ fun ek => ?_
      · exact BR.lt (hi ▸ hR.h b') hl
      · exact e (hR.inj b b' k hlive hl hb (ek ▸ hi))
  · subst e
    rcases hR.old b i hlive hb with h | h
    · omega
    · exact h

def updG (g : Nat → GM) (b : Nat) (m : GM) : Nat → GM := fun i => if i = b then m else g i
theorem updG_other {g : Nat → GM} {b : Nat} {m : GM} (hb : g b = .un) : ∀ i, g i ≠ .un → updG g b m i = g i := fun i h => by
  unfold updG; split
  · rename_i e; subst e; exact (h hb).elim
  · rfl

theorem pin_upd (hR : R c g s a w) {b : Nat} {m : GM} (hb : g b = .un) : ∀ p ∈ c.gh, updG g b m p.1 = p.2 ∧ p.2 ≠ .un := fun p hp => by
  obtain ⟨h1, h2⟩ := hR.pin p hp
  exact ⟨by rw [updG_other hb p.1 (by rw [h1]; exact h2), h1], h2⟩
/-- A free name is given to a block that has none. -/
theorem R.name (hR : R c g s a w) {b k : Nat} {x : Bk} (hfree : s.H b = .free) (hx : x.live) (hnew : ∀ b', (s.H b').live → g b' ≠ .re k) (hX : ¬ c.X k) (hold : c.w0.heap.size ≤ k ∨ c.G k)
    (hni : ∀ i, VR g (fun j => wset c g s j ∨ j = k) w (s.T i) (a.tmps.getD i undef)) (hng : ∀ i, VR (fun _ => .un) (fun j => wset c g s j ∨ j = k) w (c.gl i) (.pointer (some ⟨i, 0, none⟩))) (hnb : ∀ b', BR g (fun j => wset c g s j ∨ j = k) w (g b') (s.H b'))
    (hn : BR (updG g b (.re k)) (fun j => wset c g s j ∨ j = k) w (.re k) x) : R c (updG g b (.re k)) (s.putB b x) a w := by
  have hun : g b = .un := by
    have := hR.h b; rw [hfree] at this; generalize g b = m at this; cases this; rfl
  have hg := updG_other (m := .re k) hun
  have hself : updG g b (.re k) b = .re k := by simp [updG]
  have hne : ∀ b', (s.H b').live → b' ≠ b := fun b' h e => by subst e; rw [hfree] at h; exact h
  have hoth : ∀ b', b' ≠ b → updG g b (.re k) b' = g b' := fun b' h => by simp [updG, h]
  have hl : ∀ b', ((s.putB b x).H b').live ↔ b' = b ∨ (s.H b').live := fun b' => by
    rw [FS.H_putB]; split
    · rename_i e; subst e; exact ⟨fun _ => .inl rfl, fun _ => hx⟩
    · rename_i e; exact ⟨.inr, fun h => h.resolve_left fun e' => e e'.symm⟩
  have hW : wset c (updG g b (.re k)) (s.putB b x) = fun j => wset c g s j ∨ j = k := by
    funext j
    apply propext
    constructor
    · rintro (h | ⟨b', h1, h2⟩)
      · exact .inl (.inl h)
      · rcases (hl b').1 h1 with rfl | h
        · rw [hself] at h2; cases h2; exact .inr rfl
        · rw [hoth b' (hne b' h)] at h2; exact .inl (.inr ⟨b', h, h2⟩)
    · rintro ((h | ⟨b', h1, h2⟩) | rfl)
      · exact .inl h
      · exact .inr ⟨b', (hl b').2 (.inr h1), by rw [hoth b' (hne b' h1)]; exact h2⟩
      · exact .inr ⟨b, (hl b).2 (.inl rfl), hself⟩
  have hf := Fr.refl w (fun j => wset c g s j ∨ j = k)
  refine ⟨hR.size, hR.def_, fun i => ?_, fun i => ?_, fun b' => ?_, fun p q m hp hq h1 h2 => ?_, fun p m hp h1 => ?_, hR.fr, hR.xs, pin_upd hR hun⟩
  · rw [hW]; exact (hni i).mono hf (fun _ _ h => h) hg
  · rw [hW]; exact hng i
  · rw [hW, FS.H_putB]
    split
    · rename_i e; subst e; rw [hself]; exact hn
    · rename_i e
      rw [hoth b' fun e' => e e'.symm]
      exact (hnb b').mono hf (fun _ _ h => h) hg fun _ _ _ => rfl
  · rcases (hl p).1 hp with rfl | hp' <;> rcases (hl q).1 hq with rfl | hq'
    · rfl
    · rw [hself] at h1; cases h1; rw [hoth q (hne q hq')] at h2; exact (hnew q hq' h2).elim
    · rw [hself] at h2; cases h2; rw [hoth p (hne p hp')] at h1; exact (hnew p hp' h1).elim
    · rw [hoth p (hne p hp')] at h1; rw [hoth q (hne q hq')] at h2; exact hR.inj p q m hp' hq' h1 h2
  · rcases (hl p).1 hp with rfl | hp'
    · rw [hself] at h1; cases h1; exact hold
    · rw [hoth p (hne p hp')] at h1; exact hR.old p m hp' h1

/-- A new block under a free name. -/
theorem R.new (hR : R c g s a w) {b : Nat} {x : Bk} (o : Obj) (hfree : s.H b = .free) (hx : x.live) (hn : ∀ g', (∀ i, g i ≠ .un → g' i = g i) → BR g' (fun j => wset c g s j ∨ j = w.heap.size) (w.alloc o) (.re w.heap.size) x) :
    R c (updG g b (.re w.heap.size)) (s.putB b x) a (w.alloc o) := by
  have hun : g b = .un := by
    have := hR.h b; rw [hfree] at this; generalize g b = m at this; cases this; rfl
  have hR' := hR.grow (Fr.alloc w o _)
  have hge : ∀ k, wset c g s k → k < w.heap.size := by
    rintro k (h | ⟨b', hl, hg⟩)
    · have := (hR.xs k h).1; have := hR.fr.size; omega
    · exact BR.lt (hg ▸ hR.h b') hl
  have hw : ∀ k, k < w.heap.size → (wset c g s k ∨ k = w.heap.size) → wset c g s k := fun k hk h => h.resolve_right (by omega)
  refine hR'.name (k := w.heap.size) hfree hx (fun b' hl e => ?_) (fun e => ?_) (.inl hR.fr.size) (fun i => ?_) (fun i => ?_) (fun b' => ?_) (hn _ (updG_other hun))
  · have := BR.lt (e ▸ hR.h b') hl; omega
  · have := (hR.xs _ e).1; have := hR.fr.size; omega
  · exact (hR.t i).mono (Fr.alloc w o _) hw fun _ _ => rfl
  · exact (hR.gl i).mono (Fr.alloc w o _) hw fun _ _ => rfl
  · exact (hR.h b').mono (Fr.alloc w o _) hw (fun _ _ => rfl) fun k hk hl => Below.heap_alloc w o k (BR.lt (hk ▸ hR.h b') hl)

/-- A block goes on under another name. -/
theorem R.move (hR : R c g s a w) {b b' : Nat} (hlive : (s.H b).live) (hfree : s.H b' = .free) : R c (updG g b' (g b)) ((s.putB b .dead).putB b' (s.H b)) a w := by
  have hun : g b' = .un := by
    have := hR.h b'; rw [hfree] at this; generalize g b' = m at this; cases this; rfl
  have hne : b' ≠ b := fun e => by subst e; rw [hfree] at hlive; exact hlive
  have hg := updG_other (m := g b) hun
  have hself : updG g b' (g b) b' = g b := by simp [updG]
  have hoth : ∀ i, i ≠ b' → updG g b' (g b) i = g i := fun i h => by simp [updG, h]
  have hH : ∀ i, ((s.putB b .dead).putB b' (s.H b)).H i = if b' = i then s.H b else if b = i then .dead else s.H i := fun i => by rw [FS.H_putB, FS.H_putB]
  have hl : ∀ i, (((s.putB b .dead).putB b' (s.H b)).H i).live → (i = b' ∨ (i ≠ b ∧ i ≠ b' ∧ (s.H i).live)) := fun i h => by
    rw [hH] at h
    split at h
    · rename_i e; exact .inl e.symm
    · split at h
      · exact h.elim
      · rename_i e1 e2; exact .inr ⟨fun e => e2 e.symm, fun e => e1 e.symm, h⟩
  have hW : ∀ k, wset c (updG g b' (g b)) ((s.putB b .dead).putB b' (s.H b)) k → wset c g s k := by
    rintro k (h | ⟨i, h1, h2⟩)
    · exact .inl h
    · rcases hl i h1 with rfl | ⟨h3, h4, h5⟩
      · rw [hself] at h2; exact .inr ⟨b, hlive, h2⟩
      · rw [hoth i h4] at h2; exact .inr ⟨i, h5, h2⟩
  have hf := Fr.refl w (wset c g s)
  refine ⟨hR.size, hR.def_, fun i => (hR.t i).mono hf (fun k _ => hW k) hg, fun i => (hR.gl i).mono hf (fun k _ => hW k) (fun _ _ => rfl), fun i => ?_, fun p q m hp hq h1 h2 => ?_, fun p m hp h1 => ?_, hR.fr, hR.xs, pin_upd hR hun⟩
  · rw [hH]
    split
    · rename_i e; subst e; rw [hself]; exact (hR.h b).mono hf (fun k _ => hW k) hg fun _ _ _ => rfl
    · rename_i e1
      rw [hoth i fun e => e1 e.symm]
      split
      · rename_i e; subst e
        refine .dead fun e => ?_
        have := hR.h b; rw [e] at this; cases hh : s.H b <;> rw [hh] at this hlive <;> first | exact hlive | cases this
      · exact (hR.h i).mono hf (fun k _ => hW k) hg fun _ _ _ => rfl
  · rcases hl p hp with rfl | ⟨h3, h4, h5⟩ <;> rcases hl q hq with rfl | ⟨h6, h7, h8⟩
    · rfl
    · rw [hself] at h1; rw [hoth q h7] at h2; exact (h6 (hR.inj q b m h8 hlive h2 h1)).elim
    · rw [hself] at h2; rw [hoth p h4] at h1; exact (h3 (hR.inj p b m h5 hlive h1 h2)).elim
    · rw [hoth p h4] at h1; rw [hoth q h7] at h2; exact hR.inj p q m h5 h8 h1 h2
  · rcases hl p hp with rfl | ⟨h3, h4, h5⟩
    · rw [hself] at h1; exact hR.old b m hlive h1
    · rw [hoth p h4] at h1; exact hR.old p m h5 h1
end
end Go.Proofs.Ytblimjilinkmbaa
