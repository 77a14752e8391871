/- The library's sort of whole numbers. No conditions but the ones that stand in each. -/
import Derived.Test.YtphaicaobepimaaE3
import Derived.Test.YtphaicaobepimaaB0
import Derived.Test.YtphaicaobepimaaRows
import Derived.Shelf.Sort.Plain
import Derived.Shelf.Slices.In.SortNone
import Derived.KernelRfl
namespace Go.Proofs.Ytphaicaobepimaa
set_option linter.all false
set_option linter.unusedSimpArgs false
open Go.RowKit

def srt_ren : Go.Shelf.Ren := ⟨fun | 125 => 76 | 128 => 86 | 129 => 87 | 189 => 73 | 215 => 93 | 216 => 83 | 257 => 75 | 294 => 77 | 295 => 78 | 296 => 79 | 297 => 80 | 298 => 81 | 299 => 82 | 300 => 84 | 301 => 85 | 328 => 88 | 329 => 89 | 330 => 90 | 331 => 91 | 332 => 92 | 343 => 94 | n => n, fun | 0 => 0 | 3 => 3 | 4 => 4 | 5 => 5 | 9 => 9 | 28 => 57 | 46 => 126 | 51 => 134 | 53 => 136 | 131 => 65 | 182 => 128 | 183 => 129 | 218 => 137 | 222 => 141 | 228 => 143 | 229 => 144 | n => n, fun n => n⟩
theorem srt_lays : Lays.n189 Try.prog srt_ren := {
  mixed := by kernel_rfl,
  f125 := Try.func76.trans (congrArg some (by kernel_rfl)),
  f128 := Try.func86.trans (congrArg some (by kernel_rfl)),
  f129 := Try.func87.trans (congrArg some (by kernel_rfl)),
  f189 := Try.func73.trans (congrArg some (by kernel_rfl)),
  f215 := Try.func93.trans (congrArg some (by kernel_rfl)),
  f216 := Try.func83.trans (congrArg some (by kernel_rfl)),
  f257 := Try.func75.trans (congrArg some (by kernel_rfl)),
  f294 := Try.func77.trans (congrArg some (by kernel_rfl)),
  f295 := Try.func78.trans (congrArg some (by kernel_rfl)),
  f296 := Try.func79.trans (congrArg some (by kernel_rfl)),
  f297 := Try.func80.trans (congrArg some (by kernel_rfl)),
  f298 := Try.func81.trans (congrArg some (by kernel_rfl)),
  f299 := Try.func82.trans (congrArg some (by kernel_rfl)),
  f300 := Try.func84.trans (congrArg some (by kernel_rfl)),
  f301 := Try.func85.trans (congrArg some (by kernel_rfl)),
  f328 := Try.func88.trans (congrArg some (by kernel_rfl)),
  f329 := Try.func89.trans (congrArg some (by kernel_rfl)),
  f330 := Try.func90.trans (congrArg some (by kernel_rfl)),
  f331 := Try.func91.trans (congrArg some (by kernel_rfl)),
  f332 := Try.func92.trans (congrArg some (by kernel_rfl)),
  f343 := Try.func94.trans (congrArg some (by kernel_rfl)),
  t0 := Try.underlying0,
  a0 := Try.isAgg0,
  z0 := Try.sizeOf0,
  v0 := Try.zeroValue0,
  t3 := Try.underlying3,
  a3 := Try.isAgg3,
  z3 := Try.sizeOf3,
  v3 := Try.zeroValue3,
  t4 := Try.underlying4,
  a4 := Try.isAgg4,
  z4 := Try.sizeOf4,
  v4 := Try.zeroValue4,
  t5 := Try.underlying5,
  a5 := Try.isAgg5,
  z5 := Try.sizeOf5,
  v5 := Try.zeroValue5,
  t9 := Try.underlying9,
  a9 := Try.isAgg9,
  z9 := Try.sizeOf9,
  v9 := Try.zeroValue9,
  t28 := Try.underlying57,
  a28 := Try.isAgg57,
  z28 := Try.sizeOf57,
  v28 := Try.zeroValue57,
  t46 := Try.underlying126,
  a46 := Try.isAgg126,
  z46 := Try.sizeOf126,
  v46 := Try.zeroValue126,
  t51 := Try.underlying134,
  a51 := Try.isAgg134,
  z51 := Try.sizeOf134,
  v51 := Try.zeroValue134,
  t53 := Try.underlying136,
  a53 := Try.isAgg136,
  z53 := Try.sizeOf136,
  v53 := Try.zeroValue136,
  t131 := Try.underlying65,
  a131 := Try.isAgg65,
  z131 := Try.sizeOf65,
  v131 := Try.zeroValue65,
  t182 := Try.underlying128,
  a182 := Try.isAgg128,
  z182 := Try.sizeOf128,
  v182 := Try.zeroValue128,
  t183 := Try.underlying129,
  a183 := Try.isAgg129,
  z183 := Try.sizeOf129,
  v183 := Try.zeroValue129,
  t218 := Try.underlying137,
  a218 := Try.isAgg137,
  z218 := Try.sizeOf137,
  v218 := Try.zeroValue137,
  t222 := Try.underlying141,
  a222 := Try.isAgg141,
  z222 := Try.sizeOf141,
  v222 := Try.zeroValue141,
  t228 := Try.underlying143,
  a228 := Try.isAgg143,
  z228 := Try.sizeOf143,
  v228 := Try.zeroValue143,
  t229 := Try.underlying144,
  a229 := Try.isAgg144,
  z229 := Try.sizeOf144,
  v229 := Try.zeroValue144 }
theorem srt_grow {w : World} {k n : Nat} {os : Array Obj} {cur : Array Value} {e : TypeId} {fr : Nat × Nat} (d : Array Int) (hb : w.heap[k]? = some (.cells cur e fr)) :
    (Sort.grow (Sort.putRow (Value.int .i64) (Sort.ahead w n) k 0 d) os).heap[k]? = some (.cells (Sort.putCells (Value.int .i64) 0 d cur) e fr) := by
  have hg : k < w.heap.size := (Array.getElem?_eq_some_iff.1 hb).1
  rw [Sort.heap_grow_old _ _ (by simpa [Sort.putRow, Sort.mapBlock, Sort.ahead] using hg)]
  simp [Sort.putRow, Sort.mapBlock, Sort.ahead, Array.getElem?_modify, hb, Sort.onCells]
theorem srt_fr {w : World} {k n : Nat} {os : Array Obj} {cur : Array Value} {e : TypeId} {fr : Nat × Nat} (d : Array Int) (hb : w.heap[k]? = some (.cells cur e fr)) :
    Fr w (Sort.grow (Sort.putRow (Value.int .i64) (Sort.ahead w n) k 0 d) os) (fun i => i = k) := by
  have hs : (Sort.grow (Sort.putRow (Value.int .i64) (Sort.ahead w n) k 0 d) os).heap.size = w.heap.size + os.size := by simp [Sort.grow, Sort.putRow, Sort.mapBlock, Sort.ahead]
  refine ⟨rfl, rfl, rfl, by omega, fun j hj hne => ?_, fun j cur' e' fz' h => ?_⟩
  · rw [Sort.heap_grow_old _ _ (by simpa [Sort.putRow, Sort.mapBlock, Sort.ahead] using hj)]
    have : k ≠ j := fun e => hne e.symm
    simp [Sort.putRow, Sort.mapBlock, Sort.ahead, Array.getElem?_modify, this]
  · by_cases hjk : j = k
    · subst hjk
      rw [hb] at h; cases h
      exact ⟨_, srt_grow d hb, by simp [Sort.putCells]⟩
    · refine ⟨cur', ?_, rfl⟩
      rw [Sort.heap_grow_old _ _ (by simpa [Sort.putRow, Sort.mapBlock, Sort.ahead] using heap_lt h)]
      have : k ≠ j := fun e => hjk e.symm
      simp [Sort.putRow, Sort.mapBlock, Sort.ahead, Array.getElem?_modify, this, h]
theorem ints_getL (l : List Int) (j : Nat) (h : j < l.length) : (ints l).getD j .any = .int .i64 l[j] := by simp [ints, List.getD, h]
theorem sort_gs (gl : Nat → AV) (l : List Int) (hl : l.length ≤ 1000000) : GS Try.prog gl 73 [.sl 1 0 0 l.length l.length] [(0, .cells (ints l))] 1 (.tup []) [(0, .cells (ints (l.mergeSort fun x y => decide (x ≤ y))))] 1 := by
  refine ⟨⟨Try.f73, Try.func73, by kernel_rfl, by kernel_rfl⟩, fun w vs G X g hR hv => ?_⟩
  have hlen : (l.mergeSort fun x y => decide (x ≤ y)).length = l.length := List.length_mergeSort _
  obtain ⟨v, vs, rfl, h1, h2⟩ := hv.cons_inv
  obtain rfl := h2.nil_inv
  have hH : (Hst [(0, .cells (ints l))] 1).H 0 = .cells (ints l) := rfl
  have hbr := hR.h 0
  rw [hH] at hbr
  have hHo : ∀ x y : List AV, ((Hst [(0, .cells x)] 1).putB 0 (.cells y)) = Hst [(0, .cells y)] 1 := fun x y => fs_ext (fun _ => rfl) fun j => by
    show (if 0 = j then _ else lookb [(0, .cells x)] 1 j) = lookb [(0, .cells y)] 1 j
    rw [lookb_cons, lookb_cons]
    split <;> rfl
  rcases sl_inv h1 with ⟨k, cap, e, cur, fz, rfl, hg, h3, h4, h5, h6, h7⟩ | ⟨ad, rfl, hg, h3, h4⟩
  · rw [hg] at hbr
    cases hbr with
    | cells hb hln h11 hvv hz =>
      rw [h6] at hb; cases hb
      rw [ints_len] at hln h11 hvv
      have hcur : ∀ j (hj : j < l.length), cur[j]? = some (.int .i64 l[j]) := fun j hj => by
        have := hvv j hj
        rw [ints_getL l j hj] at this
        have hjc : j < cur.size := by omega
        have e : cur.getD j undef = cur[j] := by simp [Array.getD, hjc]
        rw [e] at this
        generalize hcv : cur[j] = cv at this
        cases this
        rw [← hcv]; simp [hjc]
      have hHolds : Sort.Holds (Value.int .i64) w k 0 l.toArray := fun j hj => by
        have hj' : j < l.length := by simpa using hj
        refine ⟨?_, ?_⟩
        · simp only [World.cell?, h6, Nat.zero_add, Option.isSome_none, Bool.false_eq_true, if_false]
          rw [hcur j hj']
          simp [hj']
        · simp only [World.frozen?, h6, Nat.zero_add]
          rcases hz with rfl | hz
          · simp
          · have : ¬ fz.1 ≤ j := by omega
            simp [this]
      have hc := Any.slices_Sort_int srt_lays k 0 cap l w hHolds (heap_lt h6) (by omega)
      refine Calls.mono hc ?_
      rintro e w' ⟨rfl, n, os, rfl⟩
      have hset := hR.setBlock (x := .cells (ints (l.mergeSort fun x y => decide (x ≤ y)))) hg (by rw [hH]; trivial) trivial (srt_fr (n := n) (os := os) (l.mergeSort fun x y => decide (x ≤ y)).toArray h6) (by
        have hget : ∀ j (hj : j < l.length), (Sort.putCells (Value.int .i64) 0 (l.mergeSort fun x y => decide (x ≤ y)).toArray cur).getD j undef = .int .i64 ((l.mergeSort fun x y => decide (x ≤ y))[j]'(by omega)) := fun j hj => by
          have hjc : j < cur.size := by omega
          have hjl : j < (l.mergeSort fun x y => decide (x ≤ y)).length := by omega
          simp [Sort.putCells, Array.getD, hjc, hj]
        refine .cells (srt_grow _ h6) (by rw [ints_len, hlen]; simpa [Sort.putCells] using hln) (fun j hj => ?_) (fun j hj => ?_) (by simpa [Sort.putCells] using hz)
        · rw [ints_len, hlen] at hj
          rw [hget j hj]; rfl
        · rw [ints_len, hlen] at hj
          rw [hget j hj, ints_getL _ j (by omega)]
          exact .int _ _)
      rw [hHo] at hset
      exact ⟨_, g, rfl, hset, fun _ _ => rfl, .tup rfl fun j hj => by simp at hj⟩
  · have h0 : l = [] := List.eq_nil_of_length_eq_zero h3
    subst h0
    refine Calls.mono (Any.slices_Sort_int_none srt_lays ad 0 w) ?_
    rintro e w' ⟨rfl, rfl⟩
    rw [show (([] : List Int).mergeSort fun x y => decide (x ≤ y)) = [] by simp]
    exact ⟨_, g, rfl, hR, fun _ _ => rfl, .tup rfl fun j hj => by simp at hj⟩

end Go.Proofs.Ytphaicaobepimaa
