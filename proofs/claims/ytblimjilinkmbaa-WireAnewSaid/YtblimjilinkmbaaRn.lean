/- Packets and bytes that came in; from a contract of the second way to what the frame asks. No conditions but the ones that stand in each. -/
import Derived.Test.YtblimjilinkmbaaWe
import Derived.Test.YtblimjilinkmbaaR0
namespace Go.Proofs.Ytblimjilinkmbaa
set_option linter.all false
set_option linter.unusedSimpArgs false
open Go.RowKit Go.ChangeShapes Go.WideShapes

theorem vr_string {g : Nat → GM} {W : Nat → Prop} {w : World} (s : ByteArray) : VR g W w (.str s.data.toList) (.string s) := by
  have : Value.string s = .string ⟨s.data.toList.toArray⟩ := by cases s; simp
  rw [this]; exact .str _
theorem PS.lawN {f : FuncId} {args : List AV} {vs : List Value} {W : World} (h : PS Try.prog (fun _ => .any) f args (.bool true)) (hv : VRs (fun _ => .un) (fun _ => False) W args vs) :
    Calls Try.prog f vs.toArray W fun e W' => e = .returned (.bool true) ∧ Below W.heap.size W W' :=
  (h.2 W vs (fun _ => False) (fun _ h => h.elim) (fun _ => .any _) hv).mono fun e w' ⟨u, e1, e2, e3⟩ => by
    cases e2
    exact ⟨e1, ⟨e3.os, e3.tape, e3.output, e3.size, fun k hk => e3.keep k hk fun h => h.elim⟩⟩
def i64b (n : Int) : Prop := -9223372036854775808 ≤ n ∧ n ≤ 9223372036854775807
def pkI (p : Pk) : Prop := i64b p.proto ∧ i64b p.frm ∧ i64b p.sport ∧ i64b p.dst ∧ i64b p.dport ∧ i64b p.ttl ∧ i64b p.id ∧ i64b p.flags ∧ i64b p.seq ∧ i64b p.ack ∧ i64b p.win
theorem pkI.ok {p : Pk} (h : pkI p) : pkOk p := by
  obtain ⟨_, _, _, _, _, h, _⟩ := h
  exact h
theorem Try.cellTypes_pk : Try.prog.cellTypes Try.prog.depth 23 = some [3, 3, 3, 3, 3, 3, 3, 3, 3, 3, 3, 9] := by kernel_rfl
theorem Try.cellsOf_pk : Try.prog.cellsOf 23 = 12 := by kernel_rfl
set_option maxRecDepth 100000 in
theorem arg_pk {W : World} {b0 : Nat} {v : Value} (hval : Value.okWide Try.prog W .any b0 23 v) : ∃ p : Pk, VR (fun _ => .un) (fun _ => False) W (.agg p.enc) v ∧ pkI p := by
  obtain ⟨cs, rfl, hs, hall⟩ := arg_cells (.inl ⟨_, Try.underlying23⟩) Try.cellTypes_pk Try.cellsOf_pk rfl hval
  obtain ⟨x0, e0, c0⟩ := hall 0 _ rfl
  obtain ⟨n0, rfl, lo0, hi0⟩ := cell_int c0 Try.underlying3
  obtain ⟨x1, e1, c1⟩ := hall 1 _ rfl
  obtain ⟨n1, rfl, lo1, hi1⟩ := cell_int c1 Try.underlying3
  obtain ⟨x2, e2, c2⟩ := hall 2 _ rfl
  obtain ⟨n2, rfl, lo2, hi2⟩ := cell_int c2 Try.underlying3
  obtain ⟨x3, e3, c3⟩ := hall 3 _ rfl
  obtain ⟨n3, rfl, lo3, hi3⟩ := cell_int c3 Try.underlying3
  obtain ⟨x4, e4, c4⟩ := hall 4 _ rfl
  obtain ⟨n4, rfl, lo4, hi4⟩ := cell_int c4 Try.underlying3
  obtain ⟨x5, e5, c5⟩ := hall 5 _ rfl
  obtain ⟨n5, rfl, lo5, hi5⟩ := cell_int c5 Try.underlying3
  obtain ⟨x6, e6, c6⟩ := hall 6 _ rfl
  obtain ⟨n6, rfl, lo6, hi6⟩ := cell_int c6 Try.underlying3
  obtain ⟨x7, e7, c7⟩ := hall 7 _ rfl
  obtain ⟨n7, rfl, lo7, hi7⟩ := cell_int c7 Try.underlying3
  obtain ⟨x8, e8, c8⟩ := hall 8 _ rfl
  obtain ⟨n8, rfl, lo8, hi8⟩ := cell_int c8 Try.underlying3
  obtain ⟨x9, e9, c9⟩ := hall 9 _ rfl
  obtain ⟨n9, rfl, lo9, hi9⟩ := cell_int c9 Try.underlying3
  obtain ⟨x10, e10, c10⟩ := hall 10 _ rfl
  obtain ⟨n10, rfl, lo10, hi10⟩ := cell_int c10 Try.underlying3
  obtain ⟨x11, e11, c11⟩ := hall 11 _ rfl
  obtain ⟨s11, rfl, z11⟩ := cell_string c11 Try.underlying9
  obtain rfl : cs = #[.int .i64 n0, .int .i64 n1, .int .i64 n2, .int .i64 n3, .int .i64 n4, .int .i64 n5, .int .i64 n6, .int .i64 n7, .int .i64 n8, .int .i64 n9, .int .i64 n10, .string s11] := by
    apply Array.ext_getElem?
    intro i
    by_cases hi : i < 12
    · match i, hi with
      | 0, _ => exact e0
      | 1, _ => exact e1
      | 2, _ => exact e2
      | 3, _ => exact e3
      | 4, _ => exact e4
      | 5, _ => exact e5
      | 6, _ => exact e6
      | 7, _ => exact e7
      | 8, _ => exact e8
      | 9, _ => exact e9
      | 10, _ => exact e10
      | 11, _ => exact e11
    · rw [Array.getElem?_eq_none (by omega), Array.getElem?_eq_none (by simp; omega)]
  refine ⟨⟨n0, n1, n2, n3, n4, n5, n6, n7, n8, n9, n10, s11.data.toList⟩, ?_, ⟨lo0, hi0⟩, ⟨lo1, hi1⟩, ⟨lo2, hi2⟩, ⟨lo3, hi3⟩, ⟨lo4, hi4⟩, ⟨lo5, hi5⟩, ⟨lo6, hi6⟩, ⟨lo7, hi7⟩, ⟨lo8, hi8⟩, ⟨lo9, hi9⟩, ⟨lo10, hi10⟩⟩
  have hs : Value.string s11 = .string ⟨s11.data.toList.toArray⟩ := by cases s11; simp
  rw [hs]
  exact (Fix.agg (xs := Pk.enc ⟨n0, n1, n2, n3, n4, n5, n6, n7, n8, n9, n10, s11.data.toList⟩) (vs := [.int .i64 n0, .int .i64 n1, .int .i64 n2, .int .i64 n3, .int .i64 n4, .int .i64 n5, .int .i64 n6, .int .i64 n7, .int .i64 n8, .int .i64 n9, .int .i64 n10, .string ⟨s11.data.toList.toArray⟩])
    ⟨.int _ _, rfl, .int _ _, rfl, .int _ _, rfl, .int _ _, rfl, .int _ _, rfl, .int _ _, rfl, .int _ _, rfl, .int _ _, rfl, .int _ _, rfl, .int _ _, rfl, .int _ _, rfl, .str _, rfl, trivial⟩ _ _ _ _).2 rfl
theorem arg_u8 {H : Type} {enc : TypeId × Value → H} {P : Program} {W : World} {b0 b : Nat} {sp : Nat → Bool} {held : Bool} {t : TypeId} {v : Value} {d : DataW H} (ht : P.underlying t = some (.int .u8)) (hval : Value.okWide P W .any b0 t v) {p} (hd : DataW.Trod enc P W b sp held t v d p) :
    ∃ n : Int, v = .int .u8 n ∧ 0 ≤ n ∧ n ≤ 255 := by
  obtain ⟨n, h1, h2, _, hw⟩ := open_int ht hval hd
  simp [Lit.wf, IntKind.min, IntKind.max, IntKind.bits, IntKind.signed] at hw
  exact ⟨n, h1, by omega, by omega⟩
end Go.Proofs.Ytblimjilinkmbaa
