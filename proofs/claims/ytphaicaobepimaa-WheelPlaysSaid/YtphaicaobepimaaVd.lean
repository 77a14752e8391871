/- A wheel's blocks. No conditions but the ones that stand in each. -/
import Derived.Test.YtphaicaobepimaaEe
import Derived.Test.YtphaicaobepimaaVp
import Derived.Test.YtphaicaobepimaaVb
namespace Go.Proofs.Ytphaicaobepimaa
set_option linter.all false
set_option linter.unusedSimpArgs false
open Go.RowKit

def tms : List Tm → List AV
  | [] => []
  | t :: l => .int .i64 t.id :: .int .i64 t.due :: tms l
theorem tms_len : ∀ l, (tms l).length = l.length * 2
  | [] => rfl
  | t :: l => by simp [tms, tms_len l]; omega
theorem tms_app : ∀ l m, tms (l ++ m) = tms l ++ tms m
  | [], m => rfl
  | t :: l, m => by simp [tms, tms_app l m]
theorem tms_nm (n : Nat) : ∀ l, nmAll n (tms l) = True
  | [] => by simp [tms, nmAll]
  | t :: l => by simp [tms, nmAll, nmOk, tms_nm n l]
theorem tms_rens (ρ : Nat → Nat) : ∀ l, rens ρ (tms l) = tms l
  | [] => by simp [tms, rens]
  | t :: l => by simp [tms, rens, ren, tms_rens ρ l]
theorem tms_nmPs (S : Nat → Prop) : ∀ l, nmPs S (tms l) = True
  | [] => by simp [tms, nmPs]
  | t :: l => by simp [tms, nmPs, nmP, tms_nmPs S l]
theorem tms_cut : ∀ (l : List Tm) (i : Nat) (h : i < l.length), ((tms l).drop (i * 2)).take 2 = [.int .i64 l[i].id, .int .i64 l[i].due]
  | t :: l, 0, _ => rfl
  | t :: l, i + 1, h => by
    have := tms_cut l i (by simpa using h)
    rw [show (i + 1) * 2 = i * 2 + 1 + 1 by omega]
    simpa [tms] using this
attribute [go_sem] tms_nm tms_rens
/-- The same as a bag. -/
def tmB (l : List Tm) : List (List AV) := l.map fun t => [.int .i64 t.id, .int .i64 t.due]
theorem tmB_flat : ∀ l, (tmB l).flatten = tms l
  | [] => rfl
  | t :: l => by
    have := tmB_flat l
    simp only [tmB] at this
    simp [tmB, tms, this]
theorem tmB_nm (l : List Tm) : ∀ x ∈ tmB l, nmAll 0 x := fun x hx => by
  obtain ⟨t, _, rfl⟩ := List.mem_map.1 hx
  simp [nmAll, nmOk]
theorem perm_map_inv {α β : Type} (f : α → β) : ∀ {l' l : List β}, l'.Perm l → ∀ l0 : List α, l = l0.map f → ∃ l1 : List α, l1.Perm l0 ∧ l' = l1.map f := fun {l' l} h => by
  induction h with
  | nil => intro l0 e; exact ⟨[], by cases l0 <;> simp_all, rfl⟩
  | cons x h ih =>
    intro l0 e
    cases l0 with
    | nil => simp at e
    | cons a l0 =>
      simp only [List.map_cons, List.cons.injEq] at e
      obtain ⟨l1, h1, h2⟩ := ih l0 e.2
      exact ⟨a :: l1, h1.cons a, by rw [h2, e.1]; rfl⟩
  | swap x y l =>
    intro l0 e
    match l0, e with
    | a :: b :: l0, e =>
      simp only [List.map_cons, List.cons.injEq] at e
      exact ⟨b :: a :: l0, List.Perm.swap a b l0, by simp [e.1, e.2.1, e.2.2]⟩
  | trans h1 h2 ih1 ih2 =>
    intro l0 e
    obtain ⟨l1, h3, h4⟩ := ih2 l0 e
    obtain ⟨l2, h5, h6⟩ := ih1 l1 h4
    exact ⟨l2, h5.trans h3, h6⟩
theorem bag_tms {g : Nat → GM} {W : Nat → Prop} {w : World} {m : GM} {l : List Tm} (h : BR g W w m (.bag (tmB l))) : ∃ l' : List Tm, l'.Perm l ∧ BR g W w m (.cells (tms l')) := by
  cases h with
  | bag hp h =>
    obtain ⟨l', h1, h2⟩ := perm_map_inv _ hp l rfl
    rw [h2] at h
    exact ⟨l', h1, by rw [← tmB_flat]; exact h⟩
theorem tms_bag {g : Nat → GM} {W : Nat → Prop} {w : World} {m : GM} {l l' : List Tm} (h : BR g W w m (.cells (tms l'))) (hp : l'.Perm l) : BR g W w m (.bag (tmB l)) := by
  rw [← tmB_flat] at h
  exact .bag (hp.map _) h
/-- The rows' cells in the wheel, and their blocks. -/
def rowC : List (List Tm) → Nat → List AV
  | [], _ => []
  | r :: l, k => .sl 2 (2 + k) 0 r.length r.length :: rowC l (k + 1)
def rowH : List (List Tm) → Nat → List (Nat × Bk)
  | [], _ => []
  | r :: l, k => (2 + k, .cells (tms r)) :: rowH l (k + 1)
/-- What is known of a wheel: its time, its rows, its map. -/
structure WT where
  now : Nat
  rows : List (List Tm)
  mb : Bk
def WT.row (T : WT) (i : Nat) : List Tm := T.rows.getD i []
def WT.cells (T : WT) : List AV := .int .i64 T.now :: (rowC T.rows 0 ++ [.mp 1])
def WT.h (T : WT) : List (Nat × Bk) := (0, .cells T.cells) :: (1, T.mb) :: rowH T.rows 0
/-- The blocks, what is on a row in no order. -/
def rowHb : List (List Tm) → Nat → List (Nat × Bk)
  | [], _ => []
  | r :: l, k => (2 + k, .bag (tmB r)) :: rowHb l (k + 1)
def WT.hb (T : WT) : List (Nat × Bk) := (0, .cells T.cells) :: (1, T.mb) :: rowHb T.rows 0
/-- The same but for the order on the rows. -/
structure WT.sim (T' T : WT) : Prop where
  now : T'.now = T.now
  mb : T'.mb = T.mb
  len : T'.rows.length = T.rows.length
  row : ∀ i, (T'.row i).Perm (T.row i)
theorem WT.sim_refl (T : WT) : T.sim T := ⟨rfl, rfl, rfl, fun _ => List.Perm.refl _⟩
theorem WT.sim_trans {T1 T2 T3 : WT} (h : T1.sim T2) (k : T2.sim T3) : T1.sim T3 := ⟨h.now.trans k.now, h.mb.trans k.mb, h.len.trans k.len, fun i => (h.row i).trans (k.row i)⟩
theorem rowC_sim : ∀ (l l' : List (List Tm)) (k : Nat), l.length = l'.length → (∀ i, (l.getD i []).Perm (l'.getD i [])) → rowC l k = rowC l' k
  | [], [], _, _, _ => rfl
  | r :: l, r' :: l', k, hl, h => by
    have h0 := (h 0).length_eq
    simp only [List.getD_cons_zero] at h0
    simp only [rowC, h0]
    rw [rowC_sim l l' (k + 1) (by simpa using hl) fun i => by have := h (i + 1); simpa only [List.getD_cons_succ] using this]
theorem WT.sim_cells {T T' : WT} (h : T'.sim T) : T'.cells = T.cells := by
  unfold WT.cells
  rw [h.now, rowC_sim _ _ 0 h.len h.row]
def WT.put (T : WT) (i : Nat) (l : List Tm) : WT := { T with rows := T.rows.set i l }
structure WT.wf (T : WT) : Prop where
  len : T.rows.length = 65
  mb : nmB 2 T.mb
theorem WT.put_wf {T : WT} (h : T.wf) (i : Nat) (l : List Tm) : (T.put i l).wf := ⟨by simp [WT.put, h.len], h.mb⟩
theorem WT.row_put {T : WT} (h : T.wf) {i : Nat} (hi : i < 65) (l : List Tm) (j : Nat) : (T.put i l).row j = if j = i then l else T.row j := by
  have hl := h.len
  unfold WT.row WT.put
  simp only [List.getD, List.getElem?_set]
  by_cases e : i = j
  · subst e; rw [if_pos rfl, if_pos (by omega), if_pos rfl]; rfl
  · rw [if_neg e, if_neg (fun q => e q.symm)]
theorem rowC_len : ∀ (l : List (List Tm)) (k : Nat), (rowC l k).length = l.length
  | [], _ => rfl
  | r :: l, k => by simp [rowC, rowC_len l (k + 1)]
theorem rowC_get : ∀ (l : List (List Tm)) (k i : Nat), i < l.length → (rowC l k)[i]? = some (.sl 2 (2 + (k + i)) 0 (l.getD i []).length (l.getD i []).length)
  | r :: l, k, 0, _ => by simp [rowC]
  | r :: l, k, i + 1, h => by
    have := rowC_get l (k + 1) i (by simpa using h)
    rw [show k + (i + 1) = k + 1 + i by omega]
    simpa [rowC] using this
theorem rowC_set : ∀ (l : List (List Tm)) (k i : Nat) (r : List Tm), i < l.length → (rowC l k).set i (.sl 2 (2 + (k + i)) 0 r.length r.length) = rowC (l.set i r) k
  | q :: l, k, 0, r, _ => by simp [rowC]
  | q :: l, k, i + 1, r, h => by
    have := rowC_set l (k + 1) i r (by simpa using h)
    rw [show k + (i + 1) = k + 1 + i by omega]
    simpa [rowC] using this
theorem WT.len {T : WT} (h : T.wf) : T.cells.length = 67 := by simp [WT.cells, rowC_len, h.len]
theorem WT.get0 (T : WT) : T.cells.getD 0 .any = .int .i64 T.now := rfl
theorem WT.get66 {T : WT} (h : T.wf) : T.cells.getD 66 .any = .mp 1 := by
  have hl := h.len
  unfold WT.cells
  rw [List.getD_cons_succ, List.getD_eq_getElem?_getD, List.getElem?_append_right (by rw [rowC_len]; omega), rowC_len, hl]; rfl
theorem WT.getI {T : WT} (h : T.wf) {i : Nat} (hi : i < 65) : T.cells.getD (i + 1) .any = .sl 2 (2 + i) 0 (T.row i).length (T.row i).length := by
  have hl := h.len
  unfold WT.cells WT.row
  rw [List.getD_cons_succ, List.getD_eq_getElem?_getD, List.getElem?_append_left (by rw [rowC_len]; omega), rowC_get _ _ _ (by omega), Nat.zero_add]; rfl
theorem WT.setI {T : WT} (h : T.wf) {i : Nat} (hi : i < 65) (l : List Tm) : T.cells.set (i + 1) (.sl 2 (2 + i) 0 l.length l.length) = (T.put i l).cells := by
  have hl := h.len
  unfold WT.cells WT.put
  rw [List.set_cons_succ, List.set_append_left _ _ (by rw [rowC_len]; omega)]
  have := rowC_set T.rows 0 i l (by omega)
  rw [Nat.zero_add] at this
  rw [this]
theorem WT.set0 (T : WT) (n : Nat) : T.cells.set 0 (.int .i64 n) = { T with now := n }.cells := rfl
theorem rowC_nm : ∀ (l : List (List Tm)) (k n : Nat), 2 + k + l.length ≤ n → nmAll n (rowC l k)
  | [], _, _, _ => by simp [rowC, nmAll]
  | r :: l, k, n, h => by
    simp only [rowC, nmAll, nmOk]
    simp only [List.length_cons] at h
    exact ⟨by omega, rowC_nm l (k + 1) n (by omega)⟩
theorem WT.nm {T : WT} (h : T.wf) {n : Nat} (hn : 67 ≤ n) : nmAll n T.cells := by
  have hl := h.len
  rw [nmAll_iff]
  intro x hx
  unfold WT.cells at hx
  rcases List.mem_cons.1 hx with rfl | hx
  · simp [nmOk]
  · rcases List.mem_append.1 hx with hx | hx
    · exact nmAll_iff.1 (rowC_nm T.rows 0 n (by omega)) x hx
    · simp only [List.mem_singleton] at hx; subst hx; simp only [nmOk]; omega
theorem rowH_look : ∀ (l : List (List Tm)) (k n b : Nat), lookb (rowH l k) n b = if 2 + k ≤ b ∧ b < 2 + k + l.length then .cells (tms (l.getD (b - (2 + k)) [])) else if b < n then .dead else .free
  | [], k, n, b => by
    rw [if_neg (by simp only [List.length_nil]; omega)]; rfl
  | r :: l, k, n, b => by
    unfold rowH
    rw [lookb_cons, rowH_look l (k + 1) n b]
    by_cases h1 : 2 + k = b
    · subst h1
      rw [if_pos rfl, if_pos (by simp)]; simp
    · rw [if_neg h1]
      by_cases h2 : 2 + (k + 1) ≤ b ∧ b < 2 + (k + 1) + l.length
      · rw [if_pos h2, if_pos (by simp; omega), show b - (2 + k) = (b - (2 + (k + 1))) + 1 by omega, List.getD_cons_succ]
      · rw [if_neg h2, if_neg (show ¬ (2 + k ≤ b ∧ b < 2 + k + (r :: l).length) by simp only [List.length_cons]; omega)]
theorem WT.rowI {T : WT} (h : T.wf) {i : Nat} (hi : i < 65) (n : Nat) : lookb (rowH T.rows 0) n (2 + i) = .cells (tms (T.row i)) := by
  have hl := h.len
  rw [rowH_look, if_pos (by omega), show 2 + i - (2 + 0) = i by omega]; rfl
theorem WT.rowHi {T : WT} (h : T.wf) (n : Nat) {b : Nat} (hb : 67 ≤ b) : lookb (rowH T.rows 0) n b = if b < n then .dead else .free := by
  have hl := h.len
  rw [rowH_look, if_neg (by omega)]
theorem nmB_up {m n : Nat} (hmn : m ≤ n) {x : Bk} (h : nmB m x) : nmB n x := by
  have up : ∀ v, nmOk m v → nmOk n v := fun v => AV.rec (motive_1 := fun v => nmOk m v → nmOk n v) (motive_2 := fun l => nmAll m l → nmAll n l) (by simp [nmOk]) (fun b v h => by simpa [nmOk] using h) (fun _ _ => by simp [nmOk]) (fun _ => by simp [nmOk]) (fun _ => by simp [nmOk])
    (fun cs h => by simpa [nmOk] using h) (fun cs h => by simpa [nmOk] using h) (fun _ _ => by simp only [nmOk]; omega) (fun cs _ h => by simpa [nmOk] using h) (fun _ _ _ _ _ => by simp only [nmOk]; omega) (fun _ cs h => by simpa [nmOk] using h) (by simp [nmOk])
    (fun _ cs h => by simpa [nmOk] using h) (fun _ => by simp only [nmOk]; omega) (fun _ => by simp [nmOk]) (by simp [nmAll]) (fun x xs h1 h2 => by simp only [nmAll]; exact fun ⟨a, b⟩ => ⟨h1 a, h2 b⟩) v
  cases x with
  | free => exact h
  | dead => exact h
  | cells cs => exact nmAll_iff.2 fun x hx => up x (nmAll_iff.1 h x hx)
  | mapb kvs dn => exact fun p hp => ⟨up _ (h p hp).1, up _ (h p hp).2⟩
  | mapx kvs bs ck => exact fun p hp => ⟨up _ (h p hp).1, up _ (h p hp).2⟩
  | iter b ck seen => exact Nat.lt_of_lt_of_le h hmn
  | bag ls => exact h
theorem ren_same {ρ : Nat → Nat} {n : Nat} (h : ∀ b, b < n → ρ b = b) : ∀ v, nmOk n v → ren ρ v = v := fun v => AV.rec (motive_1 := fun v => nmOk n v → ren ρ v = v) (motive_2 := fun l => nmAll n l → rens ρ l = l) (by simp [ren]) (fun b v h1 h2 => by simp only [nmOk] at h2; simp only [ren, h1 h2]) (fun _ _ => by simp [ren]) (fun _ => by simp [ren]) (fun _ => by simp [ren])
    (fun cs h1 h2 => by simp only [nmOk] at h2; simp only [ren, h1 h2]) (fun cs h1 h2 => by simp only [nmOk] at h2; simp only [ren, h1 h2]) (fun b _ h2 => by simp only [nmOk] at h2; simp only [ren, h b h2]) (fun cs _ h1 h2 => by simp only [nmOk] at h2; simp only [ren, h1 h2]) (fun _ b _ _ _ h2 => by simp only [nmOk] at h2; simp only [ren, h b h2]) (fun _ cs h1 h2 => by simp only [nmOk] at h2; simp only [ren, h1 h2]) (by simp [ren])
    (fun _ cs h1 h2 => by simp only [nmOk] at h2; simp only [ren, h1 h2]) (fun b h2 => by simp only [nmOk] at h2; simp only [ren, h b h2]) (fun _ => by simp [ren]) (by simp [rens]) (fun x xs h1 h2 => by simp only [nmAll, rens]; exact fun ⟨a, b⟩ => by rw [h1 a, h2 b]) v
theorem renB_same {ρ : Nat → Nat} {n : Nat} (h : ∀ b, b < n → ρ b = b) {x : Bk} (hx : nmB n x) : renB ρ x = x := by
  cases x with
  | free => rfl
  | dead => rfl
  | cells cs =>
    simp only [renB, rens_eq]
    congr 1
    exact (List.map_congr_left fun v hv => ren_same h v (nmAll_iff.1 hx v hv)).trans (List.map_id cs)
  | mapb kvs dn =>
    simp only [renB]
    congr 1
    exact (List.map_congr_left fun q hq => by rw [ren_same h _ (hx q hq).1, ren_same h _ (hx q hq).2]; rfl).trans (List.map_id kvs)
  | mapx kvs bs ck =>
    simp only [renB]
    congr 1
    exact (List.map_congr_left fun q hq => by rw [ren_same h _ (hx q hq).1, ren_same h _ (hx q hq).2]; rfl).trans (List.map_id kvs)
  | iter b ck seen => simp only [renB]; rw [h b hx]
  | bag ls => rfl
theorem rowH_mem : ∀ (l : List (List Tm)) (k : Nat) (q : Nat × Bk), q ∈ rowH l k → 2 + k ≤ q.1 ∧ q.1 < 2 + k + l.length ∧ q.2 = .cells (tms (l.getD (q.1 - (2 + k)) []))
  | r :: l, k, q, h => by
    unfold rowH at h
    rcases List.mem_cons.1 h with rfl | h
    · simp
    · obtain ⟨h1, h2, h3⟩ := rowH_mem l (k + 1) q h
      refine ⟨by omega, by simp; omega, ?_⟩
      rw [h3, show q.1 - (2 + k) = (q.1 - (2 + (k + 1))) + 1 by omega, List.getD_cons_succ]
theorem rowH_cov : ∀ (l : List (List Tm)) (k b : Nat), 2 + k ≤ b → b < 2 + k + l.length → ∃ q ∈ rowH l k, q.1 = b
  | [], k, b, h1, h2 => by simp at h2; omega
  | r :: l, k, b, h1, h2 => by
    by_cases e : b = 2 + k
    · exact ⟨(2 + k, .cells (tms r)), by simp [rowH], e.symm⟩
    · obtain ⟨q, h3, h4⟩ := rowH_cov l (k + 1) b (by omega) (by simp at h2; omega)
      exact ⟨q, by simp [rowH, h3], h4⟩
theorem WT.look {T : WT} (h : T.wf) (n : Nat) {q : Nat × Bk} (hq : q ∈ T.h) : lookb T.h n q.1 = q.2 := by
  have hl := h.len
  unfold WT.h at hq ⊢
  rcases List.mem_cons.1 hq with rfl | hq
  · rw [lookb_cons, if_pos rfl]
  rcases List.mem_cons.1 hq with rfl | hq
  · rw [lookb_cons, if_neg (by simp), lookb_cons, if_pos rfl]
  obtain ⟨h1, h2, h3⟩ := rowH_mem _ _ _ hq
  rw [lookb_cons, if_neg (by omega), lookb_cons, if_neg (by omega), rowH_look, if_pos ⟨h1, h2⟩, h3]
theorem WT.HL {T : WT} (h : T.wf) : Proofs.Ytphaicaobepimaa.HL T.h 67 := by
  have hl := h.len
  refine ⟨fun q hq => ?_, fun b hb => ?_, fun q hq => WT.look h 67 hq⟩
  · unfold WT.h at hq
    rcases List.mem_cons.1 hq with rfl | hq
    · exact ⟨by show 0 < 67; decide, WT.nm h (by omega)⟩
    rcases List.mem_cons.1 hq with rfl | hq
    · exact ⟨by show 1 < 67; decide, nmB_up (by omega) h.mb⟩
    obtain ⟨h1, h2, h3⟩ := rowH_mem _ _ _ hq
    refine ⟨by omega, ?_⟩
    rw [h3]; simp [nmB, tms_nm]
  · unfold WT.h
    by_cases h0 : b = 0
    · exact ⟨(0, .cells T.cells), by simp, h0.symm⟩
    by_cases h1 : b = 1
    · exact ⟨(1, T.mb), by simp, h1.symm⟩
    obtain ⟨q, h2, h3⟩ := rowH_cov T.rows 0 b (by omega) (by omega)
    exact ⟨q, by simp [h2], h3⟩
theorem WT.key {T : WT} (h : T.wf) {q : Nat × Bk} (hq : q ∈ T.h) : q.1 < 67 := ((WT.HL h).mem q hq).1
/-- Another wheel in its place. -/
theorem To.wh {p : List Nat} {n' : Nat} {s : St} {t' : List (Nat × AV)} {ex : List (Nat × Bk)} {T' : WT} (hT : T'.wf) (ρ : Nat → Nat) (hp : ∀ b, b ∈ p → ρ b = b ∧ b < n') (hn : 67 ≤ n') (hinj : ∀ b b', b < n' → b' < n' → ρ b = ρ b' → b = b')
    (h0 : lookb s.h s.n (ρ 0) = .cells (rens ρ T'.cells)) (h1 : lookb s.h s.n (ρ 1) = renB ρ T'.mb) (hr : ∀ i, i < 65 → lookb s.h s.n (ρ (2 + i)) = .cells (tms (T'.row i)))
    (ht : subT ρ n' s.t t') (hx : subH ρ n' s ex) (hk : ∀ q ∈ ex, 67 ≤ q.1) : To p s ⟨t', ex ++ T'.h, n'⟩ := by
  have hl := hT.len
  refine To.subF (ρ := ρ) hp ⟨ht, ?_⟩
  have fact : ∀ q ∈ T'.h, q.1 < n' ∧ nmB n' q.2 ∧ lookb s.h s.n (ρ q.1) = renB ρ q.2 := fun q hq => by
    have hq0 := hq
    obtain ⟨m1, m2⟩ := (WT.HL hT).mem q hq
    refine ⟨by omega, nmB_up hn m2, ?_⟩
    unfold WT.h at hq
    rcases List.mem_cons.1 hq with rfl | hq
    · rw [h0]; rfl
    rcases List.mem_cons.1 hq with rfl | hq
    · exact h1
    obtain ⟨g1, g2, g3⟩ := rowH_mem _ _ _ hq
    have := hr (q.1 - 2) (by omega)
    rw [show 2 + (q.1 - 2) = q.1 by omega] at this
    rw [this, g3]
    simp only [renB, tms_rens]
    rfl
  have not : ∀ (b : Nat) (l : List (Nat × Bk)), b < n' → (∀ q ∈ l, q.1 < n' ∧ q.1 ≠ b) → rhoNot ρ b l := fun b l hb => by
    induction l with
    | nil => intro _; trivial
    | cons q l ih =>
      intro hl
      obtain ⟨i, x⟩ := q
      obtain ⟨h1, h2⟩ := hl (i, x) (by simp)
      exact ⟨fun e => h2 (hinj _ _ h1 hb e), ih fun q hq => hl q (by simp [hq])⟩
  have rowsOk : ∀ (l : List (List Tm)) (k : Nat), (∀ q ∈ rowH l k, q.1 < n' ∧ nmB n' q.2 ∧ lookb s.h s.n (ρ q.1) = renB ρ q.2) → subH ρ n' s (rowH l k) := fun l => by
    induction l with
    | nil => intro k _; trivial
    | cons r l ih =>
      intro k hq
      obtain ⟨a1, a2, a3⟩ := hq (2 + k, .cells (tms r)) (by simp [rowH])
      refine ⟨⟨a1, a2, a3, not _ _ a1 fun q hq' => ?_⟩, ih (k + 1) fun q hq' => hq q (by simp [rowH, hq'])⟩
      obtain ⟨b1, b2, _⟩ := rowH_mem _ _ _ hq'
      exact ⟨(hq q (by simp [rowH, hq'])).1, by omega⟩
  have base : subH ρ n' s T'.h := by
    unfold WT.h
    obtain ⟨a1, a2, a3⟩ := fact (0, .cells T'.cells) (by simp [WT.h])
    obtain ⟨b1, b2, b3⟩ := fact (1, T'.mb) (by simp [WT.h])
    refine ⟨⟨a1, a2, a3, not _ _ a1 fun q hq => ?_⟩, ⟨b1, b2, b3, not _ _ b1 fun q hq => ?_⟩, rowsOk _ _ fun q hq => fact q (by simp [WT.h, hq])⟩
    · have := (fact q (by simp only [WT.h]; exact List.mem_cons_of_mem _ hq)).1
      rcases List.mem_cons.1 hq with rfl | hq
      · exact ⟨this, by simp⟩
      · obtain ⟨c1, c2, _⟩ := rowH_mem _ _ _ hq
        exact ⟨this, by omega⟩
    · obtain ⟨c1, c2, _⟩ := rowH_mem _ _ _ hq
      exact ⟨by omega, by omega⟩
  have app : ∀ l : List (Nat × Bk), (∀ q ∈ l, 67 ≤ q.1) → subH ρ n' s l → subH ρ n' s (l ++ T'.h) := fun l => by
    induction l with
    | nil => intro _ _; exact base
    | cons q l ih =>
      intro hk hs
      obtain ⟨i, x⟩ := q
      obtain ⟨⟨a1, a2, a3, a4⟩, a5⟩ := hs
      refine ⟨⟨a1, a2, a3, ?_⟩, ih (fun q hq => hk q (by simp [hq])) a5⟩
      have h67 := hk (i, x) (by simp)
      have rapp : ∀ (l1 l2 : List (Nat × Bk)), rhoNot ρ i l1 → rhoNot ρ i l2 → rhoNot ρ i (l1 ++ l2) := fun l1 l2 => by
        induction l1 with
        | nil => intro _ h; exact h
        | cons q l1 ih => obtain ⟨j, y⟩ := q; intro h1 h2; exact ⟨h1.1, ih h1.2 h2⟩
      exact rapp _ _ a4 (not _ _ a1 fun q hq => ⟨(fact q hq).1, by have := WT.key hT hq; dsimp only at h67; omega⟩)
  exact app ex hk hx
theorem WT.sim_wf {T T' : WT} (h : T'.sim T) (hT : T.wf) : T'.wf := ⟨h.len.trans hT.len, by rw [h.mb]; exact hT.mb⟩
theorem rowHb_look : ∀ (l : List (List Tm)) (k n b : Nat), lookb (rowHb l k) n b = if 2 + k ≤ b ∧ b < 2 + k + l.length then .bag (tmB (l.getD (b - (2 + k)) [])) else if b < n then .dead else .free
  | [], k, n, b => by
    rw [if_neg (by simp only [List.length_nil]; omega)]; rfl
  | r :: l, k, n, b => by
    unfold rowHb
    rw [lookb_cons, rowHb_look l (k + 1) n b]
    by_cases h1 : 2 + k = b
    · subst h1
      rw [if_pos rfl, if_pos (by simp)]; simp
    · rw [if_neg h1]
      by_cases h2 : 2 + (k + 1) ≤ b ∧ b < 2 + (k + 1) + l.length
      · rw [if_pos h2, if_pos (by simp; omega), show b - (2 + k) = (b - (2 + (k + 1))) + 1 by omega, List.getD_cons_succ]
      · rw [if_neg h2, if_neg (show ¬ (2 + k ≤ b ∧ b < 2 + k + (r :: l).length) by simp only [List.length_cons]; omega)]
theorem rowHb_mem : ∀ (l : List (List Tm)) (k : Nat) (q : Nat × Bk), q ∈ rowHb l k → 2 + k ≤ q.1 ∧ q.1 < 2 + k + l.length ∧ q.2 = .bag (tmB (l.getD (q.1 - (2 + k)) []))
  | r :: l, k, q, h => by
    unfold rowHb at h
    rcases List.mem_cons.1 h with rfl | h
    · simp
    · obtain ⟨h1, h2, h3⟩ := rowHb_mem l (k + 1) q h
      refine ⟨by omega, by simp; omega, ?_⟩
      rw [h3, show q.1 - (2 + k) = (q.1 - (2 + (k + 1))) + 1 by omega, List.getD_cons_succ]
theorem rowHb_cov : ∀ (l : List (List Tm)) (k b : Nat), 2 + k ≤ b → b < 2 + k + l.length → ∃ q ∈ rowHb l k, q.1 = b
  | [], k, b, h1, h2 => by simp at h2; omega
  | r :: l, k, b, h1, h2 => by
    by_cases e : b = 2 + k
    · exact ⟨(2 + k, .bag (tmB r)), by simp [rowHb], e.symm⟩
    · obtain ⟨q, h3, h4⟩ := rowHb_cov l (k + 1) b (by omega) (by simp at h2; omega)
      exact ⟨q, by simp [rowHb, h3], h4⟩
theorem WT.HLb {T : WT} (h : T.wf) : Proofs.Ytphaicaobepimaa.HL T.hb 67 := by
  have hl := h.len
  refine ⟨fun q hq => ?_, fun b hb => ?_, fun q hq => ?_⟩
  · unfold WT.hb at hq
    rcases List.mem_cons.1 hq with rfl | hq
    · exact ⟨by show 0 < 67; decide, WT.nm h (by omega)⟩
    rcases List.mem_cons.1 hq with rfl | hq
    · exact ⟨by show 1 < 67; decide, nmB_up (by omega) h.mb⟩
    obtain ⟨h1, h2, h3⟩ := rowHb_mem _ _ _ hq
    refine ⟨by omega, ?_⟩
    rw [h3]; exact tmB_nm _
  · unfold WT.hb
    by_cases h0 : b = 0
    · exact ⟨(0, .cells T.cells), by simp, h0.symm⟩
    by_cases h1 : b = 1
    · exact ⟨(1, T.mb), by simp, h1.symm⟩
    obtain ⟨q, h2, h3⟩ := rowHb_cov T.rows 0 b (by omega) (by omega)
    exact ⟨q, by simp [h2], h3⟩
  · unfold WT.hb at hq ⊢
    rcases List.mem_cons.1 hq with rfl | hq
    · rw [lookb_cons, if_pos rfl]
    rcases List.mem_cons.1 hq with rfl | hq
    · rw [lookb_cons, if_neg (by simp), lookb_cons, if_pos rfl]
    obtain ⟨h1, h2, h3⟩ := rowHb_mem _ _ _ hq
    rw [lookb_cons, if_neg (by omega), lookb_cons, if_neg (by omega), rowHb_look, if_pos ⟨h1, h2⟩, h3]
theorem WT.lookh (T : WT) (n b : Nat) : lookb T.h n b = if 0 = b then .cells T.cells else if 1 = b then T.mb else if 2 ≤ b ∧ b < 2 + T.rows.length then .cells (tms (T.row (b - 2))) else if b < n then .dead else .free := by
  unfold WT.h WT.row
  rw [lookb_cons, lookb_cons, rowH_look]
theorem WT.lookhb (T : WT) (n b : Nat) : lookb T.hb n b = if 0 = b then .cells T.cells else if 1 = b then T.mb else if 2 ≤ b ∧ b < 2 + T.rows.length then .bag (tmB (T.row (b - 2))) else if b < n then .dead else .free := by
  unfold WT.hb WT.row
  rw [lookb_cons, lookb_cons, rowHb_look]
theorem rows_choose {Q : Nat → List Tm → Prop} : ∀ (rows : List (List Tm)) (k : Nat), (∀ j, j < rows.length → ∃ l' : List Tm, l'.Perm (rows.getD j []) ∧ Q (k + j) l') → ∃ rows' : List (List Tm), rows'.length = rows.length ∧ (∀ j, (rows'.getD j []).Perm (rows.getD j [])) ∧ ∀ j, j < rows.length → Q (k + j) (rows'.getD j [])
  | [], k, _ => ⟨[], rfl, fun _ => List.Perm.refl _, fun j hj => by simp at hj⟩
  | r :: rows, k, h => by
    obtain ⟨l', h1, h2⟩ := h 0 (by simp)
    obtain ⟨rows', g1, g2, g3⟩ := rows_choose (Q := Q) rows (k + 1) fun j hj => by
      have := h (j + 1) (by simpa using hj)
      rw [show k + 1 + j = k + (j + 1) by omega]
      simpa only [List.getD_cons_succ] using this
    refine ⟨l' :: rows', by simp [g1], fun j => ?_, fun j hj => ?_⟩
    · cases j with
      | zero => simpa using h1
      | succ j => simpa only [List.getD_cons_succ] using g2 j
    · cases j with
      | zero => simpa using h2
      | succ j =>
        have := g3 j (by simpa using hj)
        rw [show k + 1 + j = k + (j + 1) by omega] at this
        simpa only [List.getD_cons_succ] using this
/-- The rows in some order. -/
theorem WT.opn {c : Cx} {g : Nat → GM} {a : Act} {w : World} {T : WT} (hR : R c g (Hst T.hb 67) a w) : ∃ T' : WT, T'.sim T ∧ R c g (Hst T'.h 67) a w := by
  have hk : ∀ j, j < T.rows.length → ∃ l' : List Tm, l'.Perm (T.rows.getD j []) ∧ (fun i (l' : List Tm) => BR g (wset c g (Hst T.hb 67)) w (g (2 + i)) (.cells (tms l'))) (0 + j) l' := fun j hj => by
    have hb := hR.h (2 + j)
    have e : (Hst T.hb 67).H (2 + j) = .bag (tmB (T.rows.getD j [])) := by
      show lookb T.hb 67 (2 + j) = _
      rw [WT.lookhb, if_neg (by omega), if_neg (by omega), if_pos (by omega), show 2 + j - 2 = j by omega]; rfl
    rw [e] at hb
    rw [Nat.zero_add]
    exact bag_tms hb
  obtain ⟨rows', h1, h2, h3⟩ := rows_choose (Q := fun i (l' : List Tm) => BR g (wset c g (Hst T.hb 67)) w (g (2 + i)) (.cells (tms l'))) T.rows 0 hk
  have hs : WT.sim { T with rows := rows' } T := ⟨rfl, rfl, h1, h2⟩
  refine ⟨_, hs, hR.resay (fun _ _ h => h) (fun b hb => ?_) fun b => ?_⟩
  · show BR _ _ _ _ (lookb (WT.h _) 67 b)
    have e : (Hst T.hb 67).H b = lookb T.hb 67 b := rfl
    rw [e, WT.lookhb] at hb
    rw [WT.lookh, WT.sim_cells hs, h1]
    by_cases c0 : 0 = b
    · rw [if_pos c0] at hb ⊢; exact hb
    rw [if_neg c0] at hb ⊢
    by_cases c1 : 1 = b
    · rw [if_pos c1] at hb ⊢; exact hb
    rw [if_neg c1] at hb ⊢
    by_cases c2 : 2 ≤ b ∧ b < 2 + T.rows.length
    · rw [if_pos c2]
      have := h3 (b - 2) (by omega)
      rw [Nat.zero_add, show 2 + (b - 2) = b by omega] at this
      exact this
    · rw [if_neg c2] at hb ⊢; exact hb
  · show (lookb _ 67 b).live ↔ (lookb T.hb 67 b).live
    rw [WT.lookh, WT.lookhb, WT.sim_cells hs, h1]
    (repeat' split) <;> first | exact Iff.rfl | exact ⟨fun _ => trivial, fun _ => trivial⟩
theorem WT.cls {c : Cx} {g : Nat → GM} {a : Act} {w : World} {T T' : WT} (hs : T'.sim T) (hR : R c g (Hst T'.h 67) a w) : R c g (Hst T.hb 67) a w := by
  refine hR.resay (fun _ _ h => h) (fun b hb => ?_) fun b => ?_
  · show BR _ _ _ _ (lookb T.hb 67 b)
    have e : (Hst T'.h 67).H b = lookb T'.h 67 b := rfl
    rw [e, WT.lookh, WT.sim_cells hs, hs.mb, hs.len] at hb
    rw [WT.lookhb]
    by_cases h0 : 0 = b
    · rw [if_pos h0] at hb ⊢; exact hb
    rw [if_neg h0] at hb ⊢
    by_cases h1 : 1 = b
    · rw [if_pos h1] at hb ⊢; exact hb
    rw [if_neg h1] at hb ⊢
    by_cases h2 : 2 ≤ b ∧ b < 2 + T.rows.length
    · rw [if_pos h2] at hb ⊢; exact tms_bag hb (hs.row _)
    · rw [if_neg h2] at hb ⊢; exact hb
  · show (lookb T.hb 67 b).live ↔ (lookb T'.h 67 b).live
    rw [WT.lookh, WT.lookhb, WT.sim_cells hs, hs.len, hs.mb]
    (repeat' split) <;> first | exact Iff.rfl | exact ⟨fun _ => trivial, fun _ => trivial⟩
/-- A contract in which the order on the rows is hidden. -/
theorem gd_bag {P : Program} {gl : Nat → AV} {f : FuncId} {args : List AV} {p : List Nat} {r : AV} {T T2 : WT} (h : ∀ T' : WT, T'.sim T → GQ P gl f args T'.h 67 p (fun T2' : WT => T2'.sim T2) (fun _ => r) WT.h) : GD P gl f args T.hb 67 p r T2.hb := by
  refine ⟨(h T T.sim_refl).1, fun w vs G X g hR hv => ?_⟩
  obtain ⟨T', hs, hR'⟩ := WT.opn hR
  have hW : wset ⟨0, w, G, X, gl, []⟩ g (Hst T'.h 67) = wset ⟨0, w, G, X, gl, []⟩ g (Hst T.hb 67) := by
    funext k
    have hl : ∀ b, ((Hst T'.h 67).H b).live ↔ ((Hst T.hb 67).H b).live := fun b => by
      show (lookb T'.h 67 b).live ↔ (lookb T.hb 67 b).live
      rw [WT.lookh, WT.lookhb, WT.sim_cells hs, hs.len, hs.mb]
      (repeat' split) <;> first | exact Iff.rfl | exact ⟨fun _ => trivial, fun _ => trivial⟩
    simp only [wset, hl]
  refine ((h T' hs).2 w vs G X g hR' (by rw [hW]; exact hv)).mono fun e w' ⟨T2', v, g', q1, q2, q3, q4, q5⟩ => ?_
  refine ⟨(), v, g', trivial, q2, WT.cls q1 q3, q4, ?_⟩
  have hW2 : wset ⟨0, w, G, X, gl, []⟩ g' (Hst T2'.h 67) = wset ⟨0, w, G, X, gl, []⟩ g' (Hst T2.hb 67) := by
    funext k
    have hl : ∀ b, ((Hst T2'.h 67).H b).live ↔ ((Hst T2.hb 67).H b).live := fun b => by
      show (lookb T2'.h 67 b).live ↔ (lookb T2.hb 67 b).live
      rw [WT.lookh, WT.lookhb, WT.sim_cells q1, q1.len, q1.mb]
      (repeat' split) <;> first | exact Iff.rfl | exact ⟨fun _ => trivial, fun _ => trivial⟩
    simp only [wset, hl]
  rw [← hW2]; exact q5
theorem WT.cell_cases {T : WT} (h : T.wf) (j : Nat) (hj : j < 67) : j = 0 ∨ j = 66 ∨ ∃ i, i < 65 ∧ j = i + 1 := by
  by_cases h0 : j = 0
  · exact .inl h0
  by_cases h1 : j = 66
  · exact .inr (.inl h1)
  · exact .inr (.inr ⟨j - 1, by omega, by omega⟩)
theorem list_ext_getD {l l' : List AV} (hl : l.length = l'.length) (h : ∀ j, j < l.length → l.getD j .any = l'.getD j .any) : l = l' := by
  refine List.ext_getElem hl fun j h1 h2 => ?_
  have := h j h1
  simpa [List.getD, h1, h2] using this
/-- One row has come to lie elsewhere. -/
def rhoI (i N b : Nat) : Nat := if b = 2 + i then N else b
theorem rens_put {T : WT} (hT : T.wf) {i : Nat} (hi : i < 65) (l : List Tm) (N : Nat) : rens (rhoI i N) (T.put i l).cells = T.cells.set (i + 1) (.sl 2 N 0 l.length l.length) := by
  have hw := WT.put_wf hT i l
  have hl1 := WT.len hT
  have hl2 := WT.len hw
  refine list_ext_getD (by rw [rens_len, List.length_set, hl1, hl2]) fun j hj => ?_
  rw [rens_len, hl2] at hj
  rw [rens_get]
  have hset : ∀ v, (T.cells.set (i + 1) v).getD j .any = if j = i + 1 then v else T.cells.getD j .any := fun v => by
    simp only [List.getD, List.getElem?_set]
    by_cases e : i + 1 = j
    · subst e; rw [if_pos rfl, if_pos (by omega), if_pos rfl]; rfl
    · rw [if_neg e, if_neg fun q => e q.symm]
  rw [hset]
  rcases WT.cell_cases hT j hj with rfl | rfl | ⟨i', hi', rfl⟩
  · rw [if_neg (by omega)]; simp only [WT.get0, ren]; rfl
  · rw [if_neg (by omega), WT.get66 hw, WT.get66 hT]; simp only [ren, rhoI]; rw [if_neg (by omega)]
  · rw [WT.getI hw hi', WT.getI hT hi', WT.row_put hT hi]
    by_cases e : i' = i
    · subst e; simp [ren, rhoI]
    · rw [if_neg e, if_neg (by omega)]
      simp only [ren, rhoI]; rw [if_neg (by omega)]
theorem To.put {p : List Nat} {n' : Nat} {s : St} {t' : List (Nat × AV)} {ex : List (Nat × Bk)} {T : WT} (hT : T.wf) {i N : Nat} (hi : i < 65) {l : List Tm} (hN : 67 ≤ N) (hn : 67 ≤ n') (hp : ∀ b, b ∈ p → b < n' ∧ b ≠ 2 + i) (hNn : n' ≤ N)
    (h0 : lookb s.h s.n 0 = .cells (T.cells.set (i + 1) (.sl 2 N 0 l.length l.length))) (h1 : lookb s.h s.n 1 = T.mb) (hl : lookb s.h s.n N = .cells (tms l)) (hr : ∀ j, j < 65 → j ≠ i → lookb s.h s.n (2 + j) = .cells (tms (T.row j)))
    (ht : subT (rhoI i N) n' s.t t') (hx : subH (rhoI i N) n' s ex) (hk : ∀ q ∈ ex, 67 ≤ q.1) : To p s ⟨t', ex ++ (T.put i l).h, n'⟩ := by
  have hw := WT.put_wf hT i l
  refine To.wh hw (rhoI i N) (fun b hb => ⟨by unfold rhoI; rw [if_neg (hp b hb).2], (hp b hb).1⟩) hn (fun b b' hb hb' e => ?_) ?_ ?_ (fun j hj => ?_) ht hx hk
  · unfold rhoI at e
    (repeat' split at e) <;> omega
  · rw [rens_put hT hi, show rhoI i N 0 = 0 by unfold rhoI; rw [if_neg (by omega)]]; exact h0
  · rw [show rhoI i N 1 = 1 by unfold rhoI; rw [if_neg (by omega)], h1]
    show T.mb = renB _ T.mb
    exact (renB_same (fun b hb => by unfold rhoI; rw [if_neg (by omega)]) hT.mb).symm
  · rw [WT.row_put hT hi]
    unfold rhoI
    by_cases e : j = i
    · subst e; rw [if_pos rfl, if_pos rfl]; exact hl
    · rw [if_neg (by omega), if_neg e]; exact hr j hj e
theorem To.wdrop {p : List Nat} {t t' : List (Nat × AV)} {ex : List (Nat × Bk)} {T : WT} {n : Nat} (hT : T.wf) (hp : ∀ b, b ∈ p → b < 67) (hex : ∀ q ∈ ex, 67 ≤ q.1) (ht : subT id 67 t t') : To p ⟨t, ex ++ T.h, n⟩ ⟨t', T.h, 67⟩ := by
  have hl := hT.len
  have hs : ∀ b, b < 67 → lookb (ex ++ T.h) n b = lookb T.h n b := fun b hb => lookb_exS fun q hq e => by have := hex q hq; omega
  refine To.wh (ex := []) hT id (fun b hb => ⟨rfl, hp b hb⟩) (by omega) (fun b b' _ _ e => e) ?_ ?_ (fun i hi => ?_) ht trivial (fun q hq => by cases hq)
  · show lookb (ex ++ T.h) n 0 = _
    rw [hs 0 (by omega), WT.lookh, if_pos rfl, rens_id]
  · show lookb (ex ++ T.h) n 1 = _
    rw [hs 1 (by omega), WT.lookh, if_neg (by omega), if_pos rfl, renB_id]
  · show lookb (ex ++ T.h) n (2 + i) = _
    rw [hs _ (by omega), WT.lookh, if_neg (by omega), if_neg (by omega), if_pos (by omega), show 2 + i - 2 = i by omega]
theorem rl_lo {ρ : List (Nat × Nat)} (h : ρ.all (fun q => decide (67 ≤ q.1) && decide (67 ≤ q.2)) = true) : ∀ b, (b < 67 → rl ρ b = b) ∧ (67 ≤ b → 67 ≤ rl ρ b) := by
  induction ρ with
  | nil => exact fun b => ⟨fun _ => rfl, fun h => h⟩
  | cons q ρ ih =>
    obtain ⟨i, j⟩ := q
    simp only [List.all_cons, Bool.and_eq_true, decide_eq_true_eq] at h
    intro b
    have := ih h.2 b
    show (b < 67 → (bif i == b then j else rl ρ b) = b) ∧ (67 ≤ b → 67 ≤ (bif i == b then j else rl ρ b))
    cases e : i == b with
    | true =>
      have : i = b := by simpa using e
      exact ⟨fun h2 => by omega, fun _ => h.1.2⟩
    | false => exact this
/-- The wheel as it is, other names put in others' places. -/
theorem To.wre {p : List Nat} {n' : Nat} {s : St} {t' : List (Nat × AV)} {ex : List (Nat × Bk)} {T : WT} (ρ : List (Nat × Nat)) (hT : T.wf) (hp : ∀ b, b ∈ p → b < 67) (hn : 67 ≤ n') (hρ : ρ.all (fun q => decide (67 ≤ q.1) && decide (67 ≤ q.2)) = true)
    (hd : distinct ((List.range (n' - 67)).map fun i => rl ρ (67 + i)) = true) (hs : ∀ b, b < 67 → lookb s.h s.n b = lookb T.h 67 b) (ht : subT (rl ρ) n' s.t t') (hx : subH (rl ρ) n' s ex) (hk : ∀ q ∈ ex, 67 ≤ q.1) : To p s ⟨t', ex ++ T.h, n'⟩ := by
  have hl := hT.len
  have hlo := rl_lo hρ
  refine To.wh hT (rl ρ) (fun b hb => ⟨(hlo b).1 (hp b hb), by have := hp b hb; omega⟩) hn (fun b b' hb hb' e => ?_) ?_ ?_ (fun i hi => ?_) ht hx hk
  · by_cases h1 : b < 67 <;> by_cases h2 : b' < 67
    · rw [(hlo b).1 h1, (hlo b').1 h2] at e; exact e
    · rw [(hlo b).1 h1] at e; have := (hlo b').2 (by omega); omega
    · rw [(hlo b').1 h2] at e; have := (hlo b).2 (by omega); omega
    · have := distinct_get hd (b - 67) (b' - 67) (by simp; omega) (by simp; omega) (by
        simp only [List.getD, List.getElem?_map, List.getElem?_range (show b - 67 < n' - 67 by omega), List.getElem?_range (show b' - 67 < n' - 67 by omega), Option.map_some, Option.getD_some]
        rw [show 67 + (b - 67) = b by omega, show 67 + (b' - 67) = b' by omega]; exact e)
      omega
  · rw [(hlo 0).1 (by omega), hs 0 (by omega), WT.lookh, if_pos rfl]
    congr 1
    refine (((list_ext_getD (by rw [rens_len]) fun j hj => ?_) : rens (rl ρ) T.cells = T.cells)).symm
    rw [rens_len, WT.len hT] at hj
    rw [rens_get]
    refine ren_same (fun b hb => (hlo b).1 hb) _ (nmAll_get (WT.nm hT (Nat.le_refl 67)) j)
  · rw [(hlo 1).1 (by omega), hs 1 (by omega), WT.lookh, if_neg (by omega), if_pos rfl]
    exact (renB_same (fun b hb => (hlo b).1 (by omega)) hT.mb).symm
  · rw [(hlo (2 + i)).1 (by omega), hs _ (by omega), WT.lookh, if_neg (by omega), if_neg (by omega), if_pos (by omega), show 2 + i - 2 = i by omega]
theorem rhoI_0 (i N : Nat) : rhoI i N 0 = 0 := by unfold rhoI; rw [if_neg (by omega)]
theorem rhoI_1 (i N : Nat) : rhoI i N 1 = 1 := by unfold rhoI; rw [if_neg (by omega)]
/-- A row is taken off: it is read from then on, and there is a row of nothing in its place. -/
theorem To.off {p : List Nat} {s : St} {T : WT} {i k : Nat} {l : List Tm} {t' : List (Nat × AV)} (hT : T.wf) (hi : i < 65) (hl : T.row i = l) (h0 : lookb s.h s.n 0 = .cells (T.cells.set (i + 1) .nils)) (hs : ∀ b, b ≠ 0 → b < 67 → lookb s.h s.n b = lookb T.h 67 b)
    (hf : s.fs.H s.n = .free) (hn : 67 ≤ s.n) (hk : look s.t k = .sl 2 (2 + i) 0 l.length l.length) (hp : ∀ b, b ∈ p → b < 2) (ht : subT (rhoI i s.n) 67 ((k, .isl l.length (tms l)) :: s.t) t') : To p s ⟨t', (T.put i []).h, 67⟩ := by
  have hrl := hT.len
  have hcl := WT.len hT
  refine To.trans (To.nilB (b := 0) (j := i + 1) (es := 2) h0 (by rw [List.getElem?_set_self (by omega)]) hf) ?_
  rw [List.set_set]
  have hrow : lookb s.h (s.n + 1) (2 + i) = .cells (tms l) := by
    rw [lookb_up _ _ _ (by omega), hs _ (by omega) (by omega), WT.lookh, if_neg (by omega), if_neg (by omega), if_pos (by omega), show 2 + i - 2 = i by omega, hl]
  refine To.trans (To.frz (b := 2 + i) (i := k) (cs := tms l) (es := 2) (off := 0) (n := l.length) (k := l.length) ?_ hk) ?_
  · show lookb ((0, _) :: (s.n, _) :: s.h) (s.n + 1) (2 + i) = _
    rw [lookb_cons, if_neg (by omega), lookb_cons, if_neg (by omega)]; exact hrow
  have htk : ((tms l).drop 0).take (l.length * 2) = tms l := by rw [List.drop_zero, List.take_of_length_le (by rw [tms_len]; omega)]
  rw [htk]
  refine To.put (ex := []) hT hi (N := s.n) hn (by omega) (fun b hb => by have := hp b hb; omega) hn ?_ ?_ ?_ (fun j hj hne => ?_) ht trivial (fun q hq => by cases hq)
  · show lookb ((2 + i, _) :: (0, _) :: (s.n, _) :: s.h) (s.n + 1) 0 = _
    rw [lookb_cons, if_neg (by omega), lookb_cons, if_pos rfl]; rfl
  · show lookb ((2 + i, _) :: (0, _) :: (s.n, _) :: s.h) (s.n + 1) 1 = _
    rw [lookb_cons, if_neg (by omega), lookb_cons, if_neg (by omega), lookb_cons, if_neg (by omega), lookb_up _ _ _ (by omega), hs 1 (by omega) (by omega), WT.lookh, if_neg (by omega), if_pos rfl]
  · show lookb ((2 + i, _) :: (0, _) :: (s.n, _) :: s.h) (s.n + 1) s.n = _
    rw [lookb_cons, if_neg (by omega), lookb_cons, if_neg (by omega), lookb_cons, if_pos rfl]; rfl
  · show lookb ((2 + i, _) :: (0, _) :: (s.n, _) :: s.h) (s.n + 1) (2 + j) = _
    rw [lookb_cons, if_neg (by omega), lookb_cons, if_neg (by omega), lookb_cons, if_neg (by omega), lookb_up _ _ _ (by omega), hs _ (by omega) (by omega), WT.lookh, if_neg (by omega), if_neg (by omega), if_pos (by omega), show 2 + j - 2 = j by omega]
def okN (b : Nat) : Prop := b < 2 ∨ 67 ≤ b
/-- A call of a wheel's function. -/
theorem pr_wh {P : Program} {c : Cx} {r0 : List TOp} {K : St → Prop} {s : St} {d : Option Nat} {f : FuncId} {xs : List TV} {args : List AV} {T : WT} {ι : Type} {Q : ι → Prop} {r : ι → AV} {W : ι → WT} {pc : List Nat} (hq : GQ P c.gl f args T.h 67 [0, 1] Q r (fun x => (W x).h)) (hT : T.wf) (hW : ∀ x, Q x → (W x).wf)
    (hgh : ∀ q ∈ c.gh, q.1 ∈ pc) (hpc : ∀ b ∈ pc, okN b) (t : List (Nat × AV)) (ex : List (Nat × Bk)) (n : Nat) (hto : To pc s ⟨t, ex ++ T.h, n⟩) (hex : ∀ q ∈ ex, 67 ≤ q.1 ∧ nmPB okN q.2)
    (hc : cokAll none (evs c.gl (⟨t, ex ++ T.h, n⟩ : St).fs xs) ∧ (evs c.gl (⟨t, ex ++ T.h, n⟩ : St).fs xs).map strip = args ∧ nmAll 67 args ∧ tPs okN t) (hr : ∀ x, Q x → nmOk 67 (r x)) (hk : ∀ x, Q x → XP P c r0 K (St.putO ⟨t, ex ++ (W x).h, n⟩ d (r x))) : PendR P c (.pd d (.call f) xs none) r0 K s := by
  have hS : okN = outS id [0, 1] 67 := by
    funext b
    refine propext ⟨fun h b' hb' e => ?_, fun h => ?_⟩
    · show b' ∈ [0, 1]
      have e : b' = b := e
      rcases h with h | h
      · have : b' = 0 ∨ b' = 1 := by omega
        simpa using this
      · omega
    · by_cases hb : b < 67
      · have := h b hb rfl
        simp at this
        exact .inl (by omega)
      · exact .inr (by omega)
  refine pr_gq (σ := id) hq hgh t ex ⟨by rw [renH_id]; exact hto, fun b b' _ _ e => e, WT.HL hT, fun b hb => ?_, fun q hq => ⟨fun b hb e => ?_, ?_⟩, ?_, by rw [renH_id]; exact hc.1, ?_, hc.2.2.1⟩ (fun x hx => WT.HL (hW x hx)) hr fun x hx => ?_
  · rw [← hS]; exact hpc b hb
  · have := (hex q hq).1
    have e : b = q.1 := e
    omega
  · rw [← hS]; exact (hex q hq).2
  · rw [← hS]; exact hc.2.2.2
  · show some (f, _) = some (f, _)
    rw [renH_id, rens_id, hc.2.1]
  · rw [renH_id, ren_id id (fun _ => rfl)]; exact hk x hx
theorem e_tPs_nil (S : Nat → Prop) : tPs S [] = True := rfl
theorem e_tPs_cons (S : Nat → Prop) (i : Nat) (v : AV) (l : List (Nat × AV)) : tPs S ((i, v) :: l) = (nmP S v ∧ tPs S l) := rfl
theorem e_nmP_int (S : Nat → Prop) (k : IntKind) (n : Int) : nmP S (.int k n) = True := by simp only [nmP]
theorem e_nmP_bool (S : Nat → Prop) (b : Bool) : nmP S (.bool b) = True := by simp only [nmP]
theorem e_nmP_str (S : Nat → Prop) (b : List UInt8) : nmP S (.str b) = True := by simp only [nmP]
theorem e_nmP_nils (S : Nat → Prop) : nmP S .nils = True := by simp only [nmP]
theorem e_nmP_ptr (S : Nat → Prop) (b o : Nat) : nmP S (.ptr b o) = S b := by simp only [nmP]
theorem e_nmP_mp (S : Nat → Prop) (b : Nat) : nmP S (.mp b) = S b := by simp only [nmP]
theorem e_nmP_sl (S : Nat → Prop) (es b o n c : Nat) : nmP S (.sl es b o n c) = S b := by simp only [nmP]
theorem e_nmP_isl (S : Nat → Prop) (n : Nat) (l : List AV) : nmP S (.isl n l) = nmPs S l := by simp only [nmP]
theorem e_nmP_agg (S : Nat → Prop) (l : List AV) : nmP S (.agg l) = nmPs S l := by simp only [nmP]
theorem e_nmP_tup (S : Nat → Prop) (l : List AV) : nmP S (.tup l) = nmPs S l := by simp only [nmP]
theorem e_nmP_cl (S : Nat → Prop) (f : FuncId) (l : List AV) : nmP S (.cl f l) = nmPs S l := by simp only [nmP]
theorem e_nmP_lit (S : Nat → Prop) (v : Value) : nmP S (.lit v) = True := by simp only [nmP]
theorem e_nmPs_nil (S : Nat → Prop) : nmPs S [] = True := by simp only [nmPs]
theorem e_nmPs_cons (S : Nat → Prop) (v : AV) (l : List AV) : nmPs S (v :: l) = (nmP S v ∧ nmPs S l) := by simp only [nmPs]
theorem e_okN0 : okN 0 = True := by simp [okN]
theorem e_okN1 : okN 1 = True := by simp [okN]
theorem e_okN (b : Nat) (h : 67 ≤ b) : okN b = True := by simp [okN, h]
attribute [go_sem] e_tPs_nil e_tPs_cons e_nmP_int e_nmP_bool e_nmP_str e_nmP_nils e_nmP_ptr e_nmP_mp e_nmP_sl e_nmP_isl e_nmP_agg e_nmP_tup e_nmP_cl e_nmP_lit e_nmPs_nil e_nmPs_cons e_okN0 e_okN1 e_okN rhoI_0 rhoI_1 tms_nmPs
theorem WT.hHi {T : WT} (h : T.wf) (n b : Nat) (hb : 67 ≤ b) : lookb T.h n b = if b < n then .dead else .free := by
  have hl := h.len
  rw [WT.lookh, if_neg (by omega), if_neg (by omega), if_neg (by omega)]
theorem WT.hbHi {T : WT} (h : T.wf) (n b : Nat) (hb : 67 ≤ b) : lookb T.hb n b = if b < n then .dead else .free := by
  have hl := h.len
  rw [WT.lookhb, if_neg (by omega), if_neg (by omega), if_neg (by omega)]
end Go.Proofs.Ytphaicaobepimaa
