/- Names: what mentions which, and how they are put in one another's place; loops; calls. No conditions but the ones that stand in each. -/
import Derived.Test.YtblimjilinkmbaaAk
namespace Go.Proofs.Ytblimjilinkmbaa
set_option linter.all false
set_option linter.unusedSimpArgs false
open Go.RowKit

mutual
/-- No name from n on is mentioned. -/
def nmOk (n : Nat) : AV → Prop
  | .cnd _ v => nmOk n v
  | .agg cs => nmAll n cs
  | .tup cs => nmAll n cs
  | .xp cs _ => nmAll n cs
  | .isl _ cs => nmAll n cs
  | .cl _ cs => nmAll n cs
  | .ptr b _ => b < n
  | .sl _ b _ _ _ => b < n
  | .mp b => b < n
  | _ => True
def nmAll (n : Nat) : List AV → Prop
  | [] => True
  | x :: xs => nmOk n x ∧ nmAll n xs
end
mutual
def ren (ρ : Nat → Nat) : AV → AV
  | .cnd b v => .cnd b (ren ρ v)
  | .agg cs => .agg (rens ρ cs)
  | .tup cs => .tup (rens ρ cs)
  | .xp cs o => .xp (rens ρ cs) o
  | .isl n cs => .isl n (rens ρ cs)
  | .cl f cs => .cl f (rens ρ cs)
  | .ptr b o => .ptr (ρ b) o
  | .sl es b o n c => .sl es (ρ b) o n c
  | .mp b => .mp (ρ b)
  | .any => .any
  | .int k n => .int k n
  | .bool b => .bool b
  | .str l => .str l
  | .nils => .nils
  | .lit v => .lit v
def rens (ρ : Nat → Nat) : List AV → List AV
  | [] => []
  | x :: xs => ren ρ x :: rens ρ xs
end
theorem nmAll_iff {n : Nat} : ∀ {cs : List AV}, nmAll n cs ↔ ∀ x ∈ cs, nmOk n x
  | [] => by simp [nmAll]
  | x :: xs => by simp [nmAll, nmAll_iff (cs := xs)]
theorem rens_eq (ρ : Nat → Nat) : ∀ cs : List AV, rens ρ cs = cs.map (ren ρ)
  | [] => by simp [rens]
  | x :: xs => by simp [rens, rens_eq ρ xs]
theorem rens_len (ρ : Nat → Nat) (cs : List AV) : (rens ρ cs).length = cs.length := by rw [rens_eq]; simp
theorem rens_get (ρ : Nat → Nat) (cs : List AV) (j : Nat) : (rens ρ cs).getD j .any = ren ρ (cs.getD j .any) := by
  rw [rens_eq]
  simp only [List.getD, List.getElem?_map]
  cases cs[j]? <;> simp [ren]
theorem nmAll_get {n : Nat} {cs : List AV} (h : nmAll n cs) (j : Nat) : nmOk n (cs.getD j .any) := by
  by_cases hj : j < cs.length
  · rw [getD_lt hj]; exact nmAll_iff.1 h _ (List.getElem_mem _)
  · have : cs.getD j .any = .any := by simp [List.getD, Nat.le_of_not_lt hj]
    rw [this]; simp [nmOk]

section
variable {P : Program} {W : Nat → Prop} {w : World} {g g' : Nat → GM} {n : Nat} {ρ : Nat → Nat}

theorem VR.ren (hg : ∀ b, b < n → g (ρ b) = g' b) {v : AV} {u : Value} (h : VR g' W w v u) : nmOk n v → VR g W w (ren ρ v) u := by
  induction h with
  | any v => intro _; simp only [Proofs.Ytblimjilinkmbaa.ren]; exact .any _
  | cnd h h0 ih => intro hn; simp only [Proofs.Ytblimjilinkmbaa.ren]; simp only [nmOk] at hn; exact .cnd (fun hb => ih hb hn) h0
  | int k n => intro _; simp only [Proofs.Ytblimjilinkmbaa.ren]; exact .int _ _
  | bool b => intro _; simp only [Proofs.Ytblimjilinkmbaa.ren]; exact .bool _
  | str l => intro _; simp only [Proofs.Ytblimjilinkmbaa.ren]; exact .str _
  | agg hs h1 h ih =>
    intro hn; simp only [Proofs.Ytblimjilinkmbaa.ren]; simp only [nmOk] at hn
    exact .agg (by rw [rens_len]; exact hs) (fun j hj => h1 j (by rwa [rens_len] at hj)) fun j hj => by rw [rens_get]; exact ih j (by rwa [rens_len] at hj) (nmAll_get hn j)
  | tup hs h ih =>
    intro hn; simp only [Proofs.Ytblimjilinkmbaa.ren]; simp only [nmOk] at hn
    exact .tup (by rw [rens_len]; exact hs) fun j hj => by rw [rens_get]; exact ih j (by rwa [rens_len] at hj) (nmAll_get hn j)
  | ptr e => intro hn; simp only [Proofs.Ytblimjilinkmbaa.ren]; simp only [nmOk] at hn; exact .ptr (by rw [hg _ hn]; exact e)
  | xp hc h ih =>
    intro hn; simp only [Proofs.Ytblimjilinkmbaa.ren]; simp only [nmOk] at hn
    exact .xp (fun j hj => hc j (by rwa [rens_len] at hj)) fun j hj => by rw [rens_get]; exact ih j (by rwa [rens_len] at hj) (nmAll_get hn j)
  | sl e a b c d f => intro hn; simp only [Proofs.Ytblimjilinkmbaa.ren]; simp only [nmOk] at hn; exact .sl (by rw [hg _ hn]; exact e) a b c d f
  | slp e hc => intro hn; simp only [Proofs.Ytblimjilinkmbaa.ren]; simp only [nmOk] at hn; exact .slp (by rw [hg _ hn]; exact e) hc
  | isl a b hc h ih =>
    intro hn; simp only [Proofs.Ytblimjilinkmbaa.ren]; simp only [nmOk] at hn
    exact .isl a b (fun j hj => hc j (by rwa [rens_len] at hj)) fun j hj => by rw [rens_get]; exact ih j (by rwa [rens_len] at hj) (nmAll_get hn j)
  | nils a => intro _; simp only [Proofs.Ytblimjilinkmbaa.ren]; exact .nils _
  | cl hs h ih =>
    intro hn; simp only [Proofs.Ytblimjilinkmbaa.ren]; simp only [nmOk] at hn
    exact .cl (by rw [rens_len]; exact hs) fun j hj => by rw [rens_get]; exact ih j (by rwa [rens_len] at hj) (nmAll_get hn j)
  | mp e => intro hn; simp only [Proofs.Ytblimjilinkmbaa.ren]; simp only [nmOk] at hn; exact .mp (by rw [hg _ hn]; exact e)
  | lit v => intro _; simp only [Proofs.Ytblimjilinkmbaa.ren]; exact .lit _

theorem VR.unren (hg : ∀ b, b < n → g (ρ b) ≠ .un → g (ρ b) = g' b) {x : AV} {u : Value} (h : VR g W w x u) : ∀ v, x = Proofs.Ytblimjilinkmbaa.ren ρ v → nmOk n v → VR g' W w v u := by
  induction h with
  | any => intro v e _; cases v <;> simp [Proofs.Ytblimjilinkmbaa.ren] at e; exact .any _
  | cnd h h0 ih => intro v e hn; cases v <;> simp [Proofs.Ytblimjilinkmbaa.ren] at e; obtain ⟨rfl, rfl⟩ := e; exact .cnd (fun hb => ih hb _ rfl (by simpa [nmOk] using hn)) h0
  | int k n => intro v e _; cases v <;> simp [Proofs.Ytblimjilinkmbaa.ren] at e; obtain ⟨rfl, rfl⟩ := e; exact .int _ _
  | bool b => intro v e _; cases v <;> simp [Proofs.Ytblimjilinkmbaa.ren] at e; subst e; exact .bool _
  | str l => intro v e _; cases v <;> simp [Proofs.Ytblimjilinkmbaa.ren] at e; subst e; exact .str _
  | agg hs h1 h ih =>
    intro v e hn; cases v <;> simp [Proofs.Ytblimjilinkmbaa.ren] at e; subst e; simp only [nmOk] at hn
    rw [rens_len] at hs h1 ih
    exact .agg hs h1 fun j hj => ih j hj _ (rens_get _ _ _) (nmAll_get hn j)
  | tup hs h ih =>
    intro v e hn; cases v <;> simp [Proofs.Ytblimjilinkmbaa.ren] at e; subst e; simp only [nmOk] at hn
    rw [rens_len] at hs ih
    exact .tup hs fun j hj => ih j hj _ (rens_get _ _ _) (nmAll_get hn j)
  | ptr e0 => intro v e hn; cases v <;> simp [Proofs.Ytblimjilinkmbaa.ren] at e; obtain ⟨rfl, rfl⟩ := e; simp only [nmOk] at hn; exact .ptr (by rw [← hg _ hn (by rw [e0]; intro x; cases x)]; exact e0)
  | xp hc h ih =>
    intro v e hn; cases v <;> simp [Proofs.Ytblimjilinkmbaa.ren] at e; obtain ⟨rfl, rfl⟩ := e; simp only [nmOk] at hn
    rw [rens_len] at hc ih
    exact .xp hc fun j hj => ih j hj _ (rens_get _ _ _) (nmAll_get hn j)
  | sl e0 a b c d f => intro v e hn; cases v <;> simp [Proofs.Ytblimjilinkmbaa.ren] at e; obtain ⟨rfl, rfl, rfl, rfl, rfl⟩ := e; simp only [nmOk] at hn; exact .sl (by rw [← hg _ hn (by rw [e0]; intro x; cases x)]; exact e0) a b c d f
  | slp e0 hc => intro v e hn; cases v <;> simp [Proofs.Ytblimjilinkmbaa.ren] at e; obtain ⟨rfl, rfl, rfl, rfl, rfl⟩ := e; simp only [nmOk] at hn; exact .slp (by rw [← hg _ hn (by rw [e0]; intro x; cases x)]; exact e0) hc
  | isl a b hc h ih =>
    intro v e hn; cases v <;> simp [Proofs.Ytblimjilinkmbaa.ren] at e; obtain ⟨rfl, rfl⟩ := e; simp only [nmOk] at hn
    rw [rens_len] at hc ih
    exact .isl a b hc fun j hj => ih j hj _ (rens_get _ _ _) (nmAll_get hn j)
  | nils a => intro v e _; cases v <;> simp [Proofs.Ytblimjilinkmbaa.ren] at e; exact .nils _
  | cl hs h ih =>
    intro v e hn; cases v <;> simp [Proofs.Ytblimjilinkmbaa.ren] at e; obtain ⟨rfl, rfl⟩ := e; simp only [nmOk] at hn
    rw [rens_len] at hs ih
    exact .cl hs fun j hj => ih j hj _ (rens_get _ _ _) (nmAll_get hn j)
  | mp e0 => intro v e hn; cases v <;> simp [Proofs.Ytblimjilinkmbaa.ren] at e; subst e; simp only [nmOk] at hn; exact .mp (by rw [← hg _ hn (by rw [e0]; intro x; cases x)]; exact e0)
  | lit => intro v e _; cases v <;> simp [Proofs.Ytblimjilinkmbaa.ren] at e; subst e; exact .lit _

theorem ren_id (ρ : Nat → Nat) (h : ∀ b, ρ b = b) : ∀ v : AV, Proofs.Ytblimjilinkmbaa.ren ρ v = v := by
  have : ρ = id := funext h
  subst this
  intro v
  exact AV.rec (motive_1 := fun v => Proofs.Ytblimjilinkmbaa.ren id v = v) (motive_2 := fun l => rens id l = l) (by simp [Proofs.Ytblimjilinkmbaa.ren]) (fun b v h => by simp [Proofs.Ytblimjilinkmbaa.ren, h]) (fun _ _ => by simp [Proofs.Ytblimjilinkmbaa.ren]) (fun _ => by simp [Proofs.Ytblimjilinkmbaa.ren]) (fun _ => by simp [Proofs.Ytblimjilinkmbaa.ren])
    (fun cs h => by simp [Proofs.Ytblimjilinkmbaa.ren, h]) (fun cs h => by simp [Proofs.Ytblimjilinkmbaa.ren, h]) (fun _ _ => by simp [Proofs.Ytblimjilinkmbaa.ren]) (fun cs _ h => by simp [Proofs.Ytblimjilinkmbaa.ren, h]) (fun _ _ _ _ _ => by simp [Proofs.Ytblimjilinkmbaa.ren]) (fun _ cs h => by simp [Proofs.Ytblimjilinkmbaa.ren, h]) (by simp [Proofs.Ytblimjilinkmbaa.ren])
    (fun _ cs h => by simp [Proofs.Ytblimjilinkmbaa.ren, h]) (fun _ => by simp [Proofs.Ytblimjilinkmbaa.ren]) (fun _ => by simp [Proofs.Ytblimjilinkmbaa.ren]) (by simp [rens]) (fun x xs h1 h2 => by simp [rens, h1, h2]) v
/-- What mentions no name from n on hangs on the names below alone. -/
theorem VR.nm {v : AV} {u : Value} (h : VR g W w v u) (hn : nmOk n v) (hg : ∀ b, b < n → g b = g' b) : VR g' W w v u :=
  h.unren (ρ := id) (n := n) (g' := g') (fun b hb _ => hg b hb) v (ren_id _ (fun _ => rfl) v).symm hn
end
end Go.Proofs.Ytblimjilinkmbaa
