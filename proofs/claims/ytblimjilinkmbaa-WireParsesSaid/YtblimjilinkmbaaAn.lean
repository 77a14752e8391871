/- What a walk's steps are reckoned by (printed by genan.py). No conditions. -/
import Derived.Test.YtblimjilinkmbaaAm
namespace Go.Proofs.Ytblimjilinkmbaa
set_option linter.all false
set_option linter.unusedSimpArgs false
open Go.RowKit

def frzL (n es o : Nat) : Bk → AV
  | .cells cs => .isl n ((cs.drop o).take (n * es))
  | _ => .any
def blkO (s : FS) : Option Nat → Bk
  | some b => s.H b
  | none => .free
def gB1 : AV → Bool → Option Bool
  | .bool b, w => some (b == w)
  | .cnd c (.bool b), w => some (c && (b == w))
  | _, _ => some false
def gOk1 : AV → Prop
  | .bool _ => True
  | .cnd _ (.bool _) => True
  | _ => False
def stOkB : Bk → TY → Nat → AV → Prop
  | .cells cs, ty, o, v => stOkC ty cs o v
  | _, _, _, _ => False
def rvB : Bk → TY → Nat → AV
  | .cells cs, ty, o => wr ty cs o
  | _, _, _ => .any
def rvC (s : FS) (ty : TY) : AV → AV
  | .ptr b o => rvB (s.H b) ty o
  | _ => .any
def rvOkB : Bk → TY → Nat → Prop
  | .cells cs, ty, o => wrOk ty cs o
  | _, _, _ => False
def rvOkC (s : FS) (ty : TY) : AV → Prop
  | .ptr b o => rvOkB (s.H b) ty o
  | _ => False
theorem frzL_cells (n es o : Nat) (cs : List AV) : frzL n es o (.cells cs) = .isl n ((cs.drop o).take (n * es)) := rfl
theorem fs_T (s : St) (i : Nat) : s.fs.T i = look s.t i := rfl
theorem fs_H (s : St) (i : Nat) : s.fs.H i = lookb s.h s.n i := rfl
theorem beq_true' (b : Bool) : (b == true) = b := by cases b <;> rfl
theorem beq_false' (b : Bool) : (b == false) = !b := by cases b <;> rfl
theorem bne_tt (b : Bool) : (true != b) = !b := by cases b <;> rfl
theorem bne_ff (b : Bool) : (false != b) = b := by cases b <;> rfl
theorem and_true_imp (b c : Bool) : ((b && c) = true → b = true) = True := by cases b <;> simp
theorem bif_tf (b : Bool) : (bif b then true else false) = b := by cases b <;> rfl
theorem bif_or (b c : Bool) : (bif b then true else c) = (b || c) := by cases b <;> rfl
theorem bif_and (b c : Bool) : (bif b then c else false) = (b && c) := by cases b <;> rfl
theorem lookb_nil (n j : Nat) : lookb [] n j = if j < n then .dead else .free := rfl
theorem lookb_cons' (i : Nat) (v : Bk) (l : List (Nat × Bk)) (n j : Nat) : lookb ((i, v) :: l) n j = bif i == j then v else lookb l n j := rfl
theorem look_nil (j : Nat) : look [] j = .any := rfl
theorem look_cons' (i : Nat) (v : AV) (l : List (Nat × AV)) (j : Nat) : look ((i, v) :: l) j = bif i == j then v else look l j := rfl
theorem e_strip_int (k : IntKind) (n : Int) : strip (.int k n) = (.int k n) := rfl
theorem e_cok_int (g : Option Bool) (k : IntKind) (n : Int) : cok g (.int k n) = True := rfl
theorem e_cellsA_int (k : IntKind) (n : Int) : cellsA (.int k n) = [.int k n] := rfl
theorem e_frzA_int (s : FS) (k : IntKind) (n : Int) : frzA s (.int k n) = frzS s (.int k n) := rfl
theorem e_frzS_int (s : FS) (k : IntKind) (n : Int) : frzS s (.int k n) = (.int k n) := rfl
theorem e_frz_int (s : FS) (k : IntKind) (n : Int) : frz s (.int k n) = frzA s (.int k n) := rfl
theorem e_one_int (k : IntKind) (n : Int) : one (.int k n) = True := rfl
theorem e_bxOk_int (k : IntKind) (n : Int) : bxOk (.int k n) = True := rfl
theorem e_nameOf_int (k : IntKind) (n : Int) (r : List AV) : nameOf ((.int k n) :: r) = none := rfl
theorem e_nmOk_int (m : Nat) (k : IntKind) (n : Int) : nmOk m (.int k n) = True := by simp only [nmOk]
theorem e_ren_int (ρ : Nat → Nat) (k : IntKind) (n : Int) : ren ρ (.int k n) = (.int k n) := by simp only [ren]
theorem e_strip_bool (b : Bool) : strip (.bool b) = (.bool b) := rfl
theorem e_cok_bool (g : Option Bool) (b : Bool) : cok g (.bool b) = True := rfl
theorem e_cellsA_bool (b : Bool) : cellsA (.bool b) = [.bool b] := rfl
theorem e_frzA_bool (s : FS) (b : Bool) : frzA s (.bool b) = frzS s (.bool b) := rfl
theorem e_frzS_bool (s : FS) (b : Bool) : frzS s (.bool b) = (.bool b) := rfl
theorem e_frz_bool (s : FS) (b : Bool) : frz s (.bool b) = frzA s (.bool b) := rfl
theorem e_one_bool (b : Bool) : one (.bool b) = True := rfl
theorem e_bxOk_bool (b : Bool) : bxOk (.bool b) = True := rfl
theorem e_nameOf_bool (b : Bool) (r : List AV) : nameOf ((.bool b) :: r) = none := rfl
theorem e_nmOk_bool (m : Nat) (b : Bool) : nmOk m (.bool b) = True := by simp only [nmOk]
theorem e_ren_bool (ρ : Nat → Nat) (b : Bool) : ren ρ (.bool b) = (.bool b) := by simp only [ren]
theorem e_strip_str (l : List UInt8) : strip (.str l) = (.str l) := rfl
theorem e_cok_str (g : Option Bool) (l : List UInt8) : cok g (.str l) = True := rfl
theorem e_cellsA_str (l : List UInt8) : cellsA (.str l) = [.str l] := rfl
theorem e_frzA_str (s : FS) (l : List UInt8) : frzA s (.str l) = frzS s (.str l) := rfl
theorem e_frzS_str (s : FS) (l : List UInt8) : frzS s (.str l) = (.str l) := rfl
theorem e_frz_str (s : FS) (l : List UInt8) : frz s (.str l) = frzA s (.str l) := rfl
theorem e_one_str (l : List UInt8) : one (.str l) = True := rfl
theorem e_bxOk_str (l : List UInt8) : bxOk (.str l) = True := rfl
theorem e_nameOf_str (l : List UInt8) (r : List AV) : nameOf ((.str l) :: r) = none := rfl
theorem e_nmOk_str (m : Nat) (l : List UInt8) : nmOk m (.str l) = True := by simp only [nmOk]
theorem e_ren_str (ρ : Nat → Nat) (l : List UInt8) : ren ρ (.str l) = (.str l) := by simp only [ren]
theorem e_strip_agg (cs : List AV) : strip (.agg cs) = (.agg cs) := rfl
theorem e_cok_agg (g : Option Bool) (cs : List AV) : cok g (.agg cs) = True := rfl
theorem e_frzS_agg (s : FS) (cs : List AV) : frzS s (.agg cs) = (.agg cs) := rfl
theorem e_frz_agg (s : FS) (cs : List AV) : frz s (.agg cs) = frzA s (.agg cs) := rfl
theorem e_nameOf_agg (cs : List AV) (r : List AV) : nameOf ((.agg cs) :: r) = none := rfl
theorem e_strip_tup (cs : List AV) : strip (.tup cs) = (.tup cs) := rfl
theorem e_cok_tup (g : Option Bool) (cs : List AV) : cok g (.tup cs) = True := rfl
theorem e_cellsA_tup (cs : List AV) : cellsA (.tup cs) = [.tup cs] := rfl
theorem e_frzA_tup (s : FS) (cs : List AV) : frzA s (.tup cs) = frzS s (.tup cs) := rfl
theorem e_frzS_tup (s : FS) (cs : List AV) : frzS s (.tup cs) = (.tup cs) := rfl
theorem e_nameOf_tup (cs : List AV) (r : List AV) : nameOf ((.tup cs) :: r) = none := rfl
theorem e_strip_ptr (b o : Nat) : strip (.ptr b o) = (.ptr b o) := rfl
theorem e_cok_ptr (g : Option Bool) (b o : Nat) : cok g (.ptr b o) = True := rfl
theorem e_cellsA_ptr (b o : Nat) : cellsA (.ptr b o) = [.ptr b o] := rfl
theorem e_frzA_ptr (s : FS) (b o : Nat) : frzA s (.ptr b o) = frzS s (.ptr b o) := rfl
theorem e_frzS_ptr (s : FS) (b o : Nat) : frzS s (.ptr b o) = (.ptr b o) := rfl
theorem e_frz_ptr (s : FS) (b o : Nat) : frz s (.ptr b o) = frzA s (.ptr b o) := rfl
theorem e_one_ptr (b o : Nat) : one (.ptr b o) = True := rfl
theorem e_bxOk_ptr (b o : Nat) : bxOk (.ptr b o) = True := rfl
theorem e_strip_xp (cs : List AV) (o : Nat) : strip (.xp cs o) = (.xp cs o) := rfl
theorem e_cok_xp (g : Option Bool) (cs : List AV) (o : Nat) : cok g (.xp cs o) = True := rfl
theorem e_cellsA_xp (cs : List AV) (o : Nat) : cellsA (.xp cs o) = [.xp cs o] := rfl
theorem e_frzA_xp (s : FS) (cs : List AV) (o : Nat) : frzA s (.xp cs o) = frzS s (.xp cs o) := rfl
theorem e_frzS_xp (s : FS) (cs : List AV) (o : Nat) : frzS s (.xp cs o) = (.xp cs o) := rfl
theorem e_frz_xp (s : FS) (cs : List AV) (o : Nat) : frz s (.xp cs o) = frzA s (.xp cs o) := rfl
theorem e_one_xp (cs : List AV) (o : Nat) : one (.xp cs o) = True := rfl
theorem e_bxOk_xp (cs : List AV) (o : Nat) : bxOk (.xp cs o) = True := rfl
theorem e_nameOf_xp (cs : List AV) (o : Nat) (r : List AV) : nameOf ((.xp cs o) :: r) = none := rfl
theorem e_strip_sl (es b o n c : Nat) : strip (.sl es b o n c) = (.sl es b o n c) := rfl
theorem e_cok_sl (g : Option Bool) (es b o n c : Nat) : cok g (.sl es b o n c) = True := rfl
theorem e_cellsA_sl (es b o n c : Nat) : cellsA (.sl es b o n c) = [.sl es b o n c] := rfl
theorem e_frzA_sl (s : FS) (es b o n c : Nat) : frzA s (.sl es b o n c) = frzS s (.sl es b o n c) := rfl
theorem e_frz_sl (s : FS) (es b o n c : Nat) : frz s (.sl es b o n c) = frzA s (.sl es b o n c) := rfl
theorem e_one_sl (es b o n c : Nat) : one (.sl es b o n c) = True := rfl
theorem e_bxOk_sl (es b o n c : Nat) : bxOk (.sl es b o n c) = True := rfl
theorem e_strip_isl (n : Nat) (cs : List AV) : strip (.isl n cs) = (.isl n cs) := rfl
theorem e_cok_isl (g : Option Bool) (n : Nat) (cs : List AV) : cok g (.isl n cs) = True := rfl
theorem e_cellsA_isl (n : Nat) (cs : List AV) : cellsA (.isl n cs) = [.isl n cs] := rfl
theorem e_frzA_isl (s : FS) (n : Nat) (cs : List AV) : frzA s (.isl n cs) = frzS s (.isl n cs) := rfl
theorem e_frzS_isl (s : FS) (n : Nat) (cs : List AV) : frzS s (.isl n cs) = (.isl n cs) := rfl
theorem e_frz_isl (s : FS) (n : Nat) (cs : List AV) : frz s (.isl n cs) = frzA s (.isl n cs) := rfl
theorem e_one_isl (n : Nat) (cs : List AV) : one (.isl n cs) = True := rfl
theorem e_bxOk_isl (n : Nat) (cs : List AV) : bxOk (.isl n cs) = True := rfl
theorem e_nameOf_isl (n : Nat) (cs : List AV) (r : List AV) : nameOf ((.isl n cs) :: r) = none := rfl
theorem e_strip_nils : strip .nils = .nils := rfl
theorem e_cok_nils (g : Option Bool) : cok g .nils = True := rfl
theorem e_cellsA_nils : cellsA .nils = [.nils] := rfl
theorem e_frzA_nils (s : FS) : frzA s .nils = frzS s .nils := rfl
theorem e_frzS_nils (s : FS) : frzS s .nils = .nils := rfl
theorem e_frz_nils (s : FS) : frz s .nils = frzA s .nils := rfl
theorem e_one_nils : one .nils = True := rfl
theorem e_bxOk_nils : bxOk .nils = True := rfl
theorem e_nameOf_nils (r : List AV) : nameOf (.nils :: r) = none := rfl
theorem e_nmOk_nils (m : Nat) : nmOk m .nils = True := by simp only [nmOk]
theorem e_ren_nils (ρ : Nat → Nat) : ren ρ .nils = .nils := by simp only [ren]
theorem e_strip_cl (f : FuncId) (cs : List AV) : strip (.cl f cs) = (.cl f cs) := rfl
theorem e_cok_cl (g : Option Bool) (f : FuncId) (cs : List AV) : cok g (.cl f cs) = True := rfl
theorem e_cellsA_cl (f : FuncId) (cs : List AV) : cellsA (.cl f cs) = [.cl f cs] := rfl
theorem e_frzA_cl (s : FS) (f : FuncId) (cs : List AV) : frzA s (.cl f cs) = frzS s (.cl f cs) := rfl
theorem e_frzS_cl (s : FS) (f : FuncId) (cs : List AV) : frzS s (.cl f cs) = (.cl f cs) := rfl
theorem e_frz_cl (s : FS) (f : FuncId) (cs : List AV) : frz s (.cl f cs) = frzA s (.cl f cs) := rfl
theorem e_one_cl (f : FuncId) (cs : List AV) : one (.cl f cs) = True := rfl
theorem e_bxOk_cl (f : FuncId) (cs : List AV) : bxOk (.cl f cs) = True := rfl
theorem e_nameOf_cl (f : FuncId) (cs : List AV) (r : List AV) : nameOf ((.cl f cs) :: r) = none := rfl
theorem e_strip_mp (b : Nat) : strip (.mp b) = (.mp b) := rfl
theorem e_cok_mp (g : Option Bool) (b : Nat) : cok g (.mp b) = True := rfl
theorem e_cellsA_mp (b : Nat) : cellsA (.mp b) = [.mp b] := rfl
theorem e_frzA_mp (s : FS) (b : Nat) : frzA s (.mp b) = frzS s (.mp b) := rfl
theorem e_frzS_mp (s : FS) (b : Nat) : frzS s (.mp b) = (.mp b) := rfl
theorem e_frz_mp (s : FS) (b : Nat) : frz s (.mp b) = frzA s (.mp b) := rfl
theorem e_one_mp (b : Nat) : one (.mp b) = True := rfl
theorem e_bxOk_mp (b : Nat) : bxOk (.mp b) = True := rfl
theorem e_strip_lit (v : Value) : strip (.lit v) = (.lit v) := rfl
theorem e_cok_lit (g : Option Bool) (v : Value) : cok g (.lit v) = True := rfl
theorem e_cellsA_lit (v : Value) : cellsA (.lit v) = [.lit v] := rfl
theorem e_frzA_lit (s : FS) (v : Value) : frzA s (.lit v) = frzS s (.lit v) := rfl
theorem e_frzS_lit (s : FS) (v : Value) : frzS s (.lit v) = (.lit v) := rfl
theorem e_frz_lit (s : FS) (v : Value) : frz s (.lit v) = frzA s (.lit v) := rfl
theorem e_nameOf_lit (v : Value) (r : List AV) : nameOf ((.lit v) :: r) = none := rfl
theorem e_nmOk_lit (m : Nat) (v : Value) : nmOk m (.lit v) = True := by simp only [nmOk]
theorem e_ren_lit (ρ : Nat → Nat) (v : Value) : ren ρ (.lit v) = (.lit v) := by simp only [ren]
theorem e_strip_any : strip .any = .any := rfl
theorem e_cok_any (g : Option Bool) : cok g .any = True := rfl
theorem e_cellsA_any : cellsA .any = [.any] := rfl
theorem e_frzA_any (s : FS) : frzA s .any = frzS s .any := rfl
theorem e_frzS_any (s : FS) : frzS s .any = .any := rfl
theorem e_frz_any (s : FS) : frz s .any = frzA s .any := rfl
theorem e_nameOf_any (r : List AV) : nameOf (.any :: r) = none := rfl
theorem e_nmOk_any (m : Nat) : nmOk m .any = True := by simp only [nmOk]
theorem e_ren_any (ρ : Nat → Nat) : ren ρ .any = .any := by simp only [ren]
theorem e_strip_cnd (b : Bool) (v : AV) : strip (.cnd b v) = v := rfl
theorem e_cok_cnd (g : Option Bool) (b : Bool) (v : AV) : cok g (.cnd b v) = ob g (b = true) := rfl
theorem e_cellsA_agg (cs : List AV) : cellsA (.agg cs) = cs := rfl
theorem e_frzS_sl (s : FS) (es b o n c : Nat) : frzS s (.sl es b o n c) = frzL n es o (s.H b) := by simp only [frzS, frzL]; generalize s.H b = x; cases x <;> rfl
theorem e_frzA_agg (s : FS) (cs : List AV) : frzA s (.agg cs) = .agg (cs.map (frzS s)) := rfl
theorem e_frz_tup (s : FS) (cs : List AV) : frz s (.tup cs) = .tup (cs.map (frzA s)) := rfl
theorem e_bxOk_agg (cs : List AV) : bxOk (.agg cs) = True := rfl
theorem e_one_nilp : one (.lit (.pointer none)) = True := by simp [one, Value.oneCell']
theorem e_one_nilm : one (.lit (.map none)) = True := by simp [one, Value.oneCell']
theorem e_nameOf_ptr (b o : Nat) (r : List AV) : nameOf (.ptr b o :: r) = some b := rfl
theorem e_nameOf_sl (es b o n c : Nat) (r : List AV) : nameOf (.sl es b o n c :: r) = some b := rfl
theorem e_nameOf_mp (b : Nat) (r : List AV) : nameOf (.mp b :: r) = some b := rfl
theorem e_nameOf_nil : nameOf [] = none := rfl
theorem e_blkOf_eq (s : FS) (l : List AV) : blkOf s l = blkO s (nameOf l) := by simp only [blkOf]; generalize nameOf l = x; cases x <;> rfl
theorem e_blkO_some (s : FS) (b : Nat) : blkO s (some b) = s.H b := rfl
theorem e_blkO_none (s : FS) : blkO s none = .free := rfl
theorem e_asI_int (k : IntKind) (n : Int) : asI (.int k n) = n := rfl
theorem e_asB_bool (b : Bool) : asB (.bool b) = b := rfl
theorem e_asS_str (l : List UInt8) : asS (.str l) = l := rfl
theorem e_isI_int (k : IntKind) (n : Int) : isI k (.int k n) = True := by simp [isI]
theorem e_isN_int (k : IntKind) (n : Int) : isN (.int k n) = True := by simp [isN]
theorem e_isB_bool (b : Bool) : isB (.bool b) = True := by simp [isB]
theorem e_isS_str (l : List UInt8) : isS (.str l) = True := by simp [isS]
theorem e_ob_none (p : Prop) : ob none p = p := rfl
theorem e_ob_some (b : Bool) (p : Prop) : ob (some b) p = (b = true → p) := rfl
theorem e_cw_none (v : AV) : cw none v = v := rfl
theorem e_cw_some (b : Bool) (v : AV) : cw (some b) v = .cnd b v := rfl
theorem e_gB_none (s : FS) : gB s none = none := rfl
theorem e_gB_some (s : FS) (t : Nat) (w : Bool) : gB s (some (t, w)) = gB1 (s.T t) w := by simp only [gB]; generalize s.T t = x; rcases x with _ | ⟨_, y⟩ | _ | _ | _ | _ | _ | _ | _ | _ | _ | _ | _ | _ | _ <;> first | rfl | (cases y <;> rfl)
theorem e_gB1_bool (b w : Bool) : gB1 (.bool b) w = some (b == w) := rfl
theorem e_gB1_cnd (c b w : Bool) : gB1 (.cnd c (.bool b)) w = some (c && (b == w)) := rfl
theorem e_gOk_none (s : FS) : gOk s none = True := by simp [gOk]
theorem e_gOk_some (s : FS) (t : Nat) (w : Bool) : gOk s (some (t, w)) = gOk1 (s.T t) := by simp only [gOk]; generalize s.T t = x; rcases x with _ | ⟨_, y⟩ | _ | _ | _ | _ | _ | _ | _ | _ | _ | _ | _ | _ | _ <;> first | rfl | (cases y <;> rfl)
theorem e_gOk1_bool (b : Bool) : gOk1 (.bool b) = True := by simp [gOk1]
theorem e_gOk1_cnd (c b : Bool) : gOk1 (.cnd c (.bool b)) = True := by simp [gOk1]
theorem e_wrS_int (k : IntKind) (v : AV) : wrS (.int k) v = .int k (asI v) := rfl
theorem e_wrS_bool (v : AV) : wrS .bool v = .bool (asB v) := rfl
theorem e_wrS_str (v : AV) : wrS .str v = .str (asS v) := rfl
theorem e_wrS_ref (v : AV) : wrS .ref v = v := rfl
theorem e_okS_int (k : IntKind) (v : AV) : okS (.int k) v = isI k v := rfl
theorem e_okS_bool (v : AV) : okS .bool v = isB v := rfl
theorem e_okS_str (v : AV) : okS .str v = isS v := rfl
theorem e_okS_ref (v : AV) : okS .ref v = True := rfl
theorem e_wr_sc (k : SK) (cs : List AV) (o : Nat) : wr (.sc k) cs o = wrS k (cs.getD o .any) := rfl
theorem e_wr_ag (n : Nat) (cs : List AV) (o : Nat) : wr (.ag n) cs o = .agg ((cs.drop o).take n) := rfl
theorem e_wrOk_sc (k : SK) (cs : List AV) (o : Nat) : wrOk (.sc k) cs o = (o < cs.length ∧ okS k (cs.getD o .any)) := rfl
theorem e_wrOk_ag (n : Nat) (cs : List AV) (o : Nat) : wrOk (.ag n) cs o = (o + n ≤ cs.length) := rfl
theorem e_putC_sc (k : SK) (cs : List AV) (o : Nat) (v : AV) : putC (.sc k) cs o v = cs.set o v := rfl
theorem e_putC_ag (n : Nat) (cs : List AV) (o : Nat) (vs : List AV) : putC (.ag n) cs o (.agg vs) = splc cs o vs := rfl
theorem e_stOkC_sc (k : SK) (cs : List AV) (o : Nat) (v : AV) : stOkC (.sc k) cs o v = (o < cs.length ∧ one v) := rfl
theorem e_stOkC_ag (n : Nat) (cs : List AV) (o : Nat) (vs : List AV) : stOkC (.ag n) cs o (.agg vs) = (vs.length = n ∧ o + n ≤ cs.length) := rfl
theorem e_stOk_ptr (s : FS) (ty : TY) (b o : Nat) (v : AV) : stOk s ty (.ptr b o) v = stOkB (s.H b) ty o v := by simp only [stOk, stOkB]; generalize s.H b = x; cases x <;> rfl
theorem e_stOkB_cells (cs : List AV) (ty : TY) (o : Nat) (v : AV) : stOkB (.cells cs) ty o v = stOkC ty cs o v := rfl
theorem e_ptrB_ptr (b o : Nat) : ptrB (.ptr b o) = b := rfl
theorem e_ptrO_ptr (b o : Nat) : ptrO (.ptr b o) = o := rfl
theorem e_cellsB_cells (cs : List AV) : cellsB (.cells cs) = cs := rfl
theorem e_rv_t (s : FS) (i : Nat) : rv s (.t i) = s.T i := rfl
theorem e_rv_cell (s : FS) (a : Nat) (ty : TY) : rv s (.cell a ty) = rvC s ty (s.T a) := by simp only [rv]; generalize s.T a = x; cases x <;> first | rfl | (simp only [rvC, rvB]; generalize s.H _ = y; cases y <;> rfl)
theorem e_rvC_ptr (s : FS) (ty : TY) (b o : Nat) : rvC s ty (.ptr b o) = rvB (s.H b) ty o := rfl
theorem e_rvB_cells (cs : List AV) (ty : TY) (o : Nat) : rvB (.cells cs) ty o = wr ty cs o := rfl
theorem e_ren_nil0 (v : AV) : ren (rl []) v = v := ren_id _ (fun _ => rfl) v
theorem e_rens_nil0 (l : List AV) : rens (rl []) l = l := by rw [rens_eq]; exact (List.map_congr_left fun x _ => ren_id _ (fun _ => rfl) x).trans (List.map_id l)
theorem e_renB_nil0 (cs : List AV) : renB (rl []) (.cells cs) = .cells cs := by simp only [renB, e_rens_nil0]
theorem e_rl_nil (b : Nat) : rl [] b = b := rfl
theorem e_rl_cons (i j : Nat) (r : List (Nat × Nat)) (b : Nat) : rl ((i, j) :: r) b = bif i == b then j else rl r b := rfl
theorem e_ren_agg (ρ : Nat → Nat) (cs : List AV) : ren ρ (.agg cs) = .agg (rens ρ cs) := by simp only [ren]
theorem e_ren_tup (ρ : Nat → Nat) (cs : List AV) : ren ρ (.tup cs) = .tup (rens ρ cs) := by simp only [ren]
theorem e_ren_xp (ρ : Nat → Nat) (cs : List AV) (o : Nat) : ren ρ (.xp cs o) = .xp (rens ρ cs) o := by simp only [ren]
theorem e_ren_isl (ρ : Nat → Nat) (n : Nat) (cs : List AV) : ren ρ (.isl n cs) = .isl n (rens ρ cs) := by simp only [ren]
theorem e_ren_ptr (ρ : Nat → Nat) (b o : Nat) : ren ρ (.ptr b o) = .ptr (ρ b) o := by simp only [ren]
theorem e_ren_sl (ρ : Nat → Nat) (es b o n c : Nat) : ren ρ (.sl es b o n c) = .sl es (ρ b) o n c := by simp only [ren]
theorem e_ren_mp (ρ : Nat → Nat) (b : Nat) : ren ρ (.mp b) = .mp (ρ b) := by simp only [ren]
theorem e_ren_cl (ρ : Nat → Nat) (f : FuncId) (cs : List AV) : ren ρ (.cl f cs) = .cl f (rens ρ cs) := by simp only [ren]
theorem e_nmOk_agg (m : Nat) (cs : List AV) : nmOk m (.agg cs) = nmAll m cs := by simp only [nmOk]
theorem e_nmOk_tup (m : Nat) (cs : List AV) : nmOk m (.tup cs) = nmAll m cs := by simp only [nmOk]
theorem e_nmOk_xp (m o : Nat) (cs : List AV) : nmOk m (.xp cs o) = nmAll m cs := by simp only [nmOk]
theorem e_nmOk_isl (m n : Nat) (cs : List AV) : nmOk m (.isl n cs) = nmAll m cs := by simp only [nmOk]
theorem e_nmOk_cl (m f : Nat) (cs : List AV) : nmOk m (.cl f cs) = nmAll m cs := by simp only [nmOk]
theorem e_nmOk_ptr (m b o : Nat) : nmOk m (.ptr b o) = (b < m) := by simp only [nmOk]
theorem e_nmOk_sl (m es b o n c : Nat) : nmOk m (.sl es b o n c) = (b < m) := by simp only [nmOk]
theorem e_nmOk_mp (m b : Nat) : nmOk m (.mp b) = (b < m) := by simp only [nmOk]
theorem e_rvOk_nil (s : FS) : rvOk s [] = True := by simp [rvOk]
theorem e_rvOk_t (s : FS) (i : Nat) (r : List RS) : rvOk s (.t i :: r) = rvOk s r := rfl
theorem e_rvOk_cell (s : FS) (a : Nat) (ty : TY) (r : List RS) : rvOk s (.cell a ty :: r) = (rvOkC s ty (s.T a) ∧ rvOk s r) := by simp only [rvOk]; congr 1; generalize s.T a = x; cases x <;> first | rfl | (simp only [rvOkC, rvOkB]; generalize s.H _ = y; cases y <;> rfl)
theorem e_rvOkC_ptr (s : FS) (ty : TY) (b o : Nat) : rvOkC s ty (.ptr b o) = rvOkB (s.H b) ty o := rfl
theorem e_rvOkB_cells (cs : List AV) (ty : TY) (o : Nat) : rvOkB (.cells cs) ty o = wrOk ty cs o := rfl
theorem e_rvs_one (s : FS) (x : RS) : rvs s [x] = rv s x := rfl
theorem e_rvs_two (s : FS) (x y : RS) (l : List RS) : rvs s (x :: y :: l) = .tup (rv s x :: rv s y :: l.map (rv s)) := rfl
theorem e_pureK_ret (rs : List RS) (r : AV) (s : St) : pureK rs r .ret s = (rvOk s.fs rs ∧ frz s.fs (rvs s.fs rs) = r) := rfl
theorem e_pureK_normal (rs : List RS) (r : AV) (s : St) : pureK rs r .normal s = (rvOk s.fs rs ∧ frz s.fs (rvs s.fs rs) = r) := rfl
theorem e_pureK_exit (rs : List RS) (r : AV) (i : Nat) (s : St) : pureK rs r (.exit i) s = False := rfl
theorem e_blockK_normal (i : Nat) (Q : EX → St → Prop) (s : St) : blockK i Q .normal s = Q .normal s := rfl
theorem e_blockK_ret (i : Nat) (Q : EX → St → Prop) (s : St) : blockK i Q .ret s = Q .ret s := rfl
theorem e_blockK_exit (i j : Nat) (Q : EX → St → Prop) (s : St) : blockK i Q (.exit j) s = if j = i then Q .normal s else Q (.exit j) s := rfl
theorem e_loopK_normal {σ : Type} (I : σ → Prop) (emb : σ → St) (μ : σ → Nat) (x : σ) (Q : EX → St → Prop) (s : St) : loopK I emb μ x Q .normal s = ∃ y, I y ∧ (∃ ρ, Sub (rl ρ) s (emb y)) ∧ μ y < μ x := rfl
theorem e_loopK_ret {σ : Type} (I : σ → Prop) (emb : σ → St) (μ : σ → Nat) (x : σ) (Q : EX → St → Prop) (s : St) : loopK I emb μ x Q .ret s = Q .ret s := rfl
theorem e_loopK_exit {σ : Type} (I : σ → Prop) (emb : σ → St) (μ : σ → Nat) (x : σ) (Q : EX → St → Prop) (i : Nat) (s : St) : loopK I emb μ x Q (.exit i) s = Q (.exit i) s := rfl
theorem e_evT_t (gl : Nat → AV) (s : FS) (i : Nat) : evT gl s (.t i) = s.T i := rfl
theorem e_evT_c (gl : Nat → AV) (s : FS) (v : AV) : evT gl s (.c v) = v := rfl
theorem e_evT_gl (gl : Nat → AV) (s : FS) (i : Nat) : evT gl s (.gl i) = gl i := rfl
theorem e_evs_nil (gl : Nat → AV) (s : FS) : evs gl s [] = [] := rfl
theorem e_evs_cons (gl : Nat → AV) (s : FS) (x : TV) (r : List TV) : evs gl s (x :: r) = evT gl s x :: evs gl s r := rfl
theorem e_cokP_pick (c : Option Bool) (x y z : AV) : cokP c .pick [x, y, z] = (cok c x ∧ ob c (asB (strip x) = true → cok none y) ∧ ob c (asB (strip x) = false → cok none z)) := rfl
theorem e_cokP_mv (c : Option Bool) (l : List AV) : cokP c .mv l = cokAll c l := rfl
theorem e_cokP_not (c : Option Bool) (l : List AV) : cokP c .not l = cokAll c l := rfl
theorem e_cokP_ar (c : Option Bool) (o : BinOp) (k : IntKind) (l : List AV) : cokP c (.ar o k) l = cokAll c l := rfl
theorem e_cokP_dv (c : Option Bool) (o : BinOp) (k : IntKind) (l : List AV) : cokP c (.dv o k) l = cokAll c l := rfl
theorem e_cokP_bt (c : Option Bool) (o : BinOp) (k : IntKind) (l : List AV) : cokP c (.bt o k) l = cokAll c l := rfl
theorem e_cokP_sh (c : Option Bool) (o : BinOp) (k : IntKind) (l : List AV) : cokP c (.sh o k) l = cokAll c l := rfl
theorem e_cokP_cm (c : Option Bool) (o : BinOp) (k : IntKind) (l : List AV) : cokP c (.cm o k) l = cokAll c l := rfl
theorem e_cokP_cB (c : Option Bool) (ne : Bool) (l : List AV) : cokP c (.cB ne) l = cokAll c l := rfl
theorem e_cokP_cS (c : Option Bool) (ne : Bool) (l : List AV) : cokP c (.cS ne) l = cokAll c l := rfl
theorem e_cokP_cat (c : Option Bool) (l : List AV) : cokP c .cat l = cokAll c l := rfl
theorem e_cokP_cv (c : Option Bool) (k : IntKind) (l : List AV) : cokP c (.cv k) l = cokAll c l := rfl
theorem e_cokP_fld (c : Option Bool) (ty : TY) (off : Nat) (l : List AV) : cokP c (.fld ty off) l = cokAll c l := rfl
theorem e_cokP_ixA (c : Option Bool) (es len : Nat) (ty : TY) (l : List AV) : cokP c (.ixA es len ty) l = cokAll c l := rfl
theorem e_cokP_ixS (c : Option Bool) (l : List AV) : cokP c .ixS l = cokAll c l := rfl
theorem e_cokP_fadr (c : Option Bool) (off : Nat) (l : List AV) : cokP c (.fadr off) l = cokAll c l := rfl
theorem e_cokP_iadrA (c : Option Bool) (len es : Nat) (l : List AV) : cokP c (.iadrA len es) l = cokAll c l := rfl
theorem e_cokP_iadrS (c : Option Bool) (es : Nat) (l : List AV) : cokP c (.iadrS es) l = cokAll c l := rfl
theorem e_cokP_ld (c : Option Bool) (ty : TY) (l : List AV) : cokP c (.ld ty) l = cokAll c l := rfl
theorem e_cokP_lenS (c : Option Bool) (l : List AV) : cokP c .lenS l = cokAll c l := rfl
theorem e_cokP_lenL (c : Option Bool) (l : List AV) : cokP c .lenL l = cokAll c l := rfl
theorem e_cokP_lenM (c : Option Bool) (l : List AV) : cokP c .lenM l = cokAll c l := rfl
theorem e_cokP_slS (c : Option Bool) (lo hi : Bool) (l : List AV) : cokP c (.slS lo hi) l = cokAll c l := rfl
theorem e_cokP_slL (c : Option Bool) (es : Nat) (lo hi : Bool) (l : List AV) : cokP c (.slL es lo hi) l = cokAll c l := rfl
theorem e_cokP_ext (c : Option Bool) (i : Nat) (l : List AV) : cokP c (.ext i) l = cokAll c l := rfl
theorem e_cokP_nilck (c : Option Bool) (l : List AV) : cokP c .nilck l = cokAll c l := rfl
theorem e_cokP_bld (c : Option Bool) (z : List AV) (ps : List (Nat × Nat)) (l : List AV) : cokP c (.bld z ps) l = cokAll c l := rfl
theorem e_cokP_mkf (c : Option Bool) (f : FuncId) (l : List AV) : cokP c (.mkf f) l = cokAll c l := rfl
theorem e_cokP_mn (c : Option Bool) (k : IntKind) (l : List AV) : cokP c (.mn k) l = cokAll c l := rfl
theorem e_cokP_mx (c : Option Bool) (k : IntKind) (l : List AV) : cokP c (.mx k) l = cokAll c l := rfl
theorem e_cokP_nilP (c : Option Bool) (ne : Bool) (l : List AV) : cokP c (.nilP ne) l = cokAll c l := rfl
theorem e_cokP_b2s (c : Option Bool) (l : List AV) : cokP c .b2s l = cokAll c l := rfl
theorem e_qv_mv (x : AV) (bk : Bk) : qv .mv [x] bk = x := rfl
theorem e_qp_mv (x : AV) (bk : Bk) : qp .mv [x] bk = True := by simp [qp]
theorem e_qv_not (x : AV) (bk : Bk) : qv .not [x] bk = .bool (!asB x) := rfl
theorem e_qp_not (x : AV) (bk : Bk) : qp .not [x] bk = isB x := rfl
theorem e_qv_pick (c x y : AV) (bk : Bk) : qv .pick [c, x, y] bk = .bool (bif asB c then asB x else asB y) := rfl
theorem e_qp_pick (c x y : AV) (bk : Bk) : qp .pick [c, x, y] bk = (isB c ∧ (asB c = true → isB x) ∧ (asB c = false → isB y)) := rfl
theorem e_qv_ar (o : BinOp) (k : IntKind) (x y : AV) (bk : Bk) : qv (.ar o k) [x, y] bk = .int k (k.wrap (arI o (asI x) (asI y))) := rfl
theorem e_qp_ar (o : BinOp) (k : IntKind) (x y : AV) (bk : Bk) : qp (.ar o k) [x, y] bk = (isI k x ∧ isI k y) := rfl
theorem e_qv_dv (o : BinOp) (k : IntKind) (x y : AV) (bk : Bk) : qv (.dv o k) [x, y] bk = .int k (dvI o k (asI x) (asI y)) := rfl
theorem e_qp_dv (o : BinOp) (k : IntKind) (x y : AV) (bk : Bk) : qp (.dv o k) [x, y] bk = (isI k x ∧ isI k y ∧ asI y ≠ 0) := rfl
theorem e_qv_bt (o : BinOp) (k : IntKind) (x y : AV) (bk : Bk) : qv (.bt o k) [x, y] bk = .int k (bits o k (asI x) (asI y)) := rfl
theorem e_qp_bt (o : BinOp) (k : IntKind) (x y : AV) (bk : Bk) : qp (.bt o k) [x, y] bk = (isI k x ∧ isI k y) := rfl
theorem e_qv_sh (o : BinOp) (k : IntKind) (x y : AV) (bk : Bk) : qv (.sh o k) [x, y] bk = .int k (shI o k (asI x) (asI y)) := rfl
theorem e_qp_sh (o : BinOp) (k : IntKind) (x y : AV) (bk : Bk) : qp (.sh o k) [x, y] bk = (isI k x ∧ isN y ∧ 0 ≤ asI y) := rfl
theorem e_qv_cm (o : BinOp) (k : IntKind) (x y : AV) (bk : Bk) : qv (.cm o k) [x, y] bk = .bool (cmI o (asI x) (asI y)) := rfl
theorem e_qp_cm (o : BinOp) (k : IntKind) (x y : AV) (bk : Bk) : qp (.cm o k) [x, y] bk = (isI k x ∧ isI k y) := rfl
theorem e_qv_cB (ne : Bool) (x y : AV) (bk : Bk) : qv (.cB ne) [x, y] bk = .bool (ne != (asB x == asB y)) := rfl
theorem e_qp_cB (ne : Bool) (x y : AV) (bk : Bk) : qp (.cB ne) [x, y] bk = (isB x ∧ isB y) := rfl
theorem e_qv_cS (ne : Bool) (x y : AV) (bk : Bk) : qv (.cS ne) [x, y] bk = .bool (ne != (asS x == asS y)) := rfl
theorem e_qp_cS (ne : Bool) (x y : AV) (bk : Bk) : qp (.cS ne) [x, y] bk = (isS x ∧ isS y) := rfl
theorem e_qv_cat (x y : AV) (bk : Bk) : qv .cat [x, y] bk = .str (asS x ++ asS y) := rfl
theorem e_qp_cat (x y : AV) (bk : Bk) : qp .cat [x, y] bk = (isS x ∧ isS y ∧ (asS x).length + (asS y).length ≤ 9223372036854775807) := rfl
theorem e_qv_cv (k : IntKind) (x : AV) (bk : Bk) : qv (.cv k) [x] bk = .int k (k.wrap (asI x)) := rfl
theorem e_qp_cv (k : IntKind) (x : AV) (bk : Bk) : qp (.cv k) [x] bk = isN x := rfl
theorem e_qv_fld (ty : TY) (off : Nat) (cs : List AV) (bk : Bk) : qv (.fld ty off) [.agg cs] bk = wr ty cs off := rfl
theorem e_qp_fld (ty : TY) (off : Nat) (cs : List AV) (bk : Bk) : qp (.fld ty off) [.agg cs] bk = wrOk ty cs off := rfl
theorem e_qv_ixA (es len : Nat) (ty : TY) (cs : List AV) (i : AV) (bk : Bk) : qv (.ixA es len ty) [.agg cs, i] bk = wr ty cs ((asI i).toNat * es) := rfl
theorem e_qp_ixA (es len : Nat) (ty : TY) (cs : List AV) (i : AV) (bk : Bk) : qp (.ixA es len ty) [.agg cs, i] bk = (isN i ∧ 0 ≤ asI i ∧ asI i < len ∧ wrOk ty cs ((asI i).toNat * es)) := rfl
theorem e_qv_ixS (x i : AV) (bk : Bk) : qv .ixS [x, i] bk = .int .u8 ((asS x).getD (asI i).toNat 0).toNat := rfl
theorem e_qp_ixS (x i : AV) (bk : Bk) : qp .ixS [x, i] bk = (isS x ∧ isN i ∧ 0 ≤ asI i ∧ asI i < (asS x).length) := rfl
theorem e_qv_fadr (o b off : Nat) (bk : Bk) : qv (.fadr o) [.ptr b off] bk = .ptr b (off + o) := rfl
theorem e_qp_fadr (o b off : Nat) (bk : Bk) : qp (.fadr o) [.ptr b off] bk = True := by simp [qp]
theorem e_qv_fadrx (o off : Nat) (cs : List AV) (bk : Bk) : qv (.fadr o) [.xp cs off] bk = .xp cs (off + o) := rfl
theorem e_qp_fadrx (o off : Nat) (cs : List AV) (bk : Bk) : qp (.fadr o) [.xp cs off] bk = True := by simp [qp]
theorem e_qv_iadrA (len es b off : Nat) (i : AV) (bk : Bk) : qv (.iadrA len es) [.ptr b off, i] bk = .ptr b (off + (asI i).toNat * es) := rfl
theorem e_qp_iadrA (len es b off : Nat) (i : AV) (bk : Bk) : qp (.iadrA len es) [.ptr b off, i] bk = (isN i ∧ 0 ≤ asI i ∧ asI i < len) := rfl
theorem e_qv_iadrAx (len es off : Nat) (cs : List AV) (i : AV) (bk : Bk) : qv (.iadrA len es) [.xp cs off, i] bk = .xp cs (off + (asI i).toNat * es) := rfl
theorem e_qp_iadrAx (len es off : Nat) (cs : List AV) (i : AV) (bk : Bk) : qp (.iadrA len es) [.xp cs off, i] bk = (isN i ∧ 0 ≤ asI i ∧ asI i < len) := rfl
theorem e_qv_iadrS (es es2 b off n c : Nat) (i : AV) (bk : Bk) : qv (.iadrS es) [.sl es2 b off n c, i] bk = .ptr b (off + (asI i).toNat * es) := rfl
theorem e_qp_iadrS (es es2 b off n c : Nat) (i : AV) (bk : Bk) : qp (.iadrS es) [.sl es2 b off n c, i] bk = (es2 = es ∧ isN i ∧ 0 ≤ asI i ∧ asI i < n) := rfl
theorem e_qv_iadrSx (es n : Nat) (cs : List AV) (i : AV) (bk : Bk) : qv (.iadrS es) [.isl n cs, i] bk = .xp cs ((asI i).toNat * es) := rfl
theorem e_qp_iadrSx (es n : Nat) (cs : List AV) (i : AV) (bk : Bk) : qp (.iadrS es) [.isl n cs, i] bk = (isN i ∧ 0 ≤ asI i ∧ asI i < n ∧ (asI i).toNat * es < cs.length) := rfl
theorem e_qv_ld (ty : TY) (b off : Nat) (cs : List AV) : qv (.ld ty) [.ptr b off] (.cells cs) = wr ty cs off := rfl
theorem e_qp_ld (ty : TY) (b off : Nat) (cs : List AV) : qp (.ld ty) [.ptr b off] (.cells cs) = wrOk ty cs off := rfl
theorem e_qv_ldx (ty : TY) (off : Nat) (cs : List AV) (bk : Bk) : qv (.ld ty) [.xp cs off] bk = wr ty cs off := rfl
theorem e_qp_ldx (ty : TY) (off : Nat) (cs : List AV) (bk : Bk) : qp (.ld ty) [.xp cs off] bk = wrOk ty cs off := rfl
theorem e_qv_lenS (x : AV) (bk : Bk) : qv .lenS [x] bk = .int .i64 (asS x).length := rfl
theorem e_qp_lenS (x : AV) (bk : Bk) : qp .lenS [x] bk = isS x := rfl
theorem e_qv_lenLi (n : Nat) (cs : List AV) (bk : Bk) : qv .lenL [.isl n cs] bk = .int .i64 n := rfl
theorem e_qp_lenLi (n : Nat) (cs : List AV) (bk : Bk) : qp .lenL [.isl n cs] bk = True := by simp [qp]
theorem e_qv_lenLs (es b o n c : Nat) (bk : Bk) : qv .lenL [.sl es b o n c] bk = .int .i64 n := rfl
theorem e_qp_lenLs (es b o n c : Nat) (bk : Bk) : qp .lenL [.sl es b o n c] bk = True := by simp [qp]
theorem e_qv_lenLn (bk : Bk) : qv .lenL [.nils] bk = .int .i64 0 := rfl
theorem e_qp_lenLn (bk : Bk) : qp .lenL [.nils] bk = True := by simp [qp]
theorem e_qv_lenM (b : Nat) (kvs : List (AV × AV)) : qv .lenM [.mp b] (.mapb kvs) = .int .i64 kvs.length := rfl
theorem e_qp_lenM (b : Nat) (kvs : List (AV × AV)) : qp .lenM [.mp b] (.mapb kvs) = True := by simp [qp]
theorem e_qv_slS (lo hi : Bool) (x : AV) (r : List AV) (bk : Bk) : qv (.slS lo hi) (x :: r) bk = .str (((asS x).drop (loOf lo r).toNat).take ((hiOf lo hi (asS x).length r).toNat - (loOf lo r).toNat)) := rfl
theorem e_qp_slS (lo hi : Bool) (x : AV) (r : List AV) (bk : Bk) : qp (.slS lo hi) (x :: r) bk = (isS x ∧ bdOk lo hi r ∧ 0 ≤ loOf lo r ∧ loOf lo r ≤ hiOf lo hi (asS x).length r ∧ hiOf lo hi (asS x).length r ≤ (asS x).length) := rfl
theorem e_qv_slLi (es n : Nat) (cs : List AV) (lo hi : Bool) (r : List AV) (bk : Bk) : qv (.slL es lo hi) (.isl n cs :: r) bk = .isl ((hiOf lo hi n r).toNat - (loOf lo r).toNat) ((cs.drop ((loOf lo r).toNat * es)).take (((hiOf lo hi n r).toNat - (loOf lo r).toNat) * es)) := rfl
theorem e_qp_slLi (es n : Nat) (cs : List AV) (lo hi : Bool) (r : List AV) (bk : Bk) : qp (.slL es lo hi) (.isl n cs :: r) bk = (bdOk lo hi r ∧ 0 ≤ loOf lo r ∧ loOf lo r ≤ hiOf lo hi n r ∧ hiOf lo hi n r ≤ n ∧ cs.length ≤ n * es) := rfl
theorem e_qv_slLs (es es2 b off n c : Nat) (lo hi : Bool) (r : List AV) (bk : Bk) : qv (.slL es lo hi) (.sl es2 b off n c :: r) bk = .sl es b (off + (loOf lo r).toNat * es) ((hiOf lo hi n r).toNat - (loOf lo r).toNat) (c - (loOf lo r).toNat) := rfl
theorem e_qp_slLs (es es2 b off n c : Nat) (lo hi : Bool) (r : List AV) (bk : Bk) : qp (.slL es lo hi) (.sl es2 b off n c :: r) bk = (es2 = es ∧ bdOk lo hi r ∧ 0 ≤ loOf lo r ∧ loOf lo r ≤ hiOf lo hi n r ∧ hiOf lo hi n r ≤ c ∧ loOf lo r < c) := rfl
theorem e_qv_ext (i : Nat) (vs : List AV) (bk : Bk) : qv (.ext i) [.tup vs] bk = vs.getD i .any := rfl
theorem e_qp_ext (i : Nat) (vs : List AV) (bk : Bk) : qp (.ext i) [.tup vs] bk = (i < vs.length) := rfl
theorem e_qv_nilck (b o : Nat) (bk : Bk) : qv .nilck [.ptr b o] bk = .ptr b o := rfl
theorem e_qp_nilck (b o : Nat) (bk : Bk) : qp .nilck [.ptr b o] bk = True := by simp [qp]
theorem e_qv_nilckx (cs : List AV) (o : Nat) (bk : Bk) : qv .nilck [.xp cs o] bk = .xp cs o := rfl
theorem e_qp_nilckx (cs : List AV) (o : Nat) (bk : Bk) : qp .nilck [.xp cs o] bk = True := by simp [qp]
theorem e_qv_bld (z : List AV) (ps : List (Nat × Nat)) (vs : List AV) (bk : Bk) : qv (.bld z ps) vs bk = .agg (bldC z ps vs) := by rcases vs with _ | ⟨a, _ | ⟨b, _ | ⟨c, _ | ⟨d, r⟩⟩⟩⟩ <;> rfl
theorem e_qp_bld (z : List AV) (ps : List (Nat × Nat)) (vs : List AV) (bk : Bk) : qp (.bld z ps) vs bk = bldOk z.length ps vs := by rcases vs with _ | ⟨a, _ | ⟨b, _ | ⟨c, _ | ⟨d, r⟩⟩⟩⟩ <;> rfl
theorem e_qv_mkf (f : FuncId) (vs : List AV) (bk : Bk) : qv (.mkf f) vs bk = .cl f vs := by rcases vs with _ | ⟨a, _ | ⟨b, _ | ⟨c, _ | ⟨d, r⟩⟩⟩⟩ <;> rfl
theorem e_qp_mkf (f : FuncId) (vs : List AV) (bk : Bk) : qp (.mkf f) vs bk = True := by rcases vs with _ | ⟨a, _ | ⟨b, _ | ⟨c, _ | ⟨d, r⟩⟩⟩⟩ <;> simp [qp]
theorem e_qv_mn (k : IntKind) (x y : AV) (bk : Bk) : qv (.mn k) [x, y] bk = .int k (if asI y < asI x then asI y else asI x) := rfl
theorem e_qp_mn (k : IntKind) (x y : AV) (bk : Bk) : qp (.mn k) [x, y] bk = (isI k x ∧ isI k y) := rfl
theorem e_qv_mx (k : IntKind) (x y : AV) (bk : Bk) : qv (.mx k) [x, y] bk = .int k (if asI y > asI x then asI y else asI x) := rfl
theorem e_qp_mx (k : IntKind) (x y : AV) (bk : Bk) : qp (.mx k) [x, y] bk = (isI k x ∧ isI k y) := rfl
theorem e_qv_nilPn (ne : Bool) (bk : Bk) : qv (.nilP ne) [.lit (.pointer none)] bk = .bool (!ne) := rfl
theorem e_qp_nilPn (ne : Bool) (bk : Bk) : qp (.nilP ne) [.lit (.pointer none)] bk = True := by simp [qp]
theorem e_qv_nilPp (ne : Bool) (b o : Nat) (bk : Bk) : qv (.nilP ne) [.ptr b o] bk = .bool ne := rfl
theorem e_qp_nilPp (ne : Bool) (b o : Nat) (bk : Bk) : qp (.nilP ne) [.ptr b o] bk = True := by simp [qp]
theorem e_qv_nilPx (ne : Bool) (cs : List AV) (o : Nat) (bk : Bk) : qv (.nilP ne) [.xp cs o] bk = .bool ne := rfl
theorem e_qp_nilPx (ne : Bool) (cs : List AV) (o : Nat) (bk : Bk) : qp (.nilP ne) [.xp cs o] bk = True := by simp [qp]
theorem e_qv_b2sn (bk : Bk) : qv .b2s [.nils] bk = .str [] := rfl
theorem e_qp_b2sn (bk : Bk) : qp .b2s [.nils] bk = True := by simp [qp]
theorem e_qv_b2si (n : Nat) (cs : List AV) (bk : Bk) : qv .b2s [.isl n cs] bk = .str (toB (cs.take n)) := rfl
theorem e_qp_b2si (n : Nat) (cs : List AV) (bk : Bk) : qp .b2s [.isl n cs] bk = (n ≤ cs.length ∧ ∀ v ∈ cs.take n, isI .u8 v) := rfl
theorem e_qv_b2ss (es b off n c : Nat) (cs : List AV) : qv .b2s [.sl es b off n c] (.cells cs) = .str (toB ((cs.drop off).take n)) := rfl
theorem e_qp_b2ss (es b off n c : Nat) (cs : List AV) : qp .b2s [.sl es b off n c] (.cells cs) = (es = 1 ∧ off + n ≤ cs.length ∧ ∀ v ∈ (cs.drop off).take n, isI .u8 v) := rfl
theorem e_arI_add (x y : Int) : arI .add x y = x + y := rfl
theorem e_arI_sub (x y : Int) : arI .sub x y = x - y := rfl
theorem e_arI_mul (x y : Int) : arI .mul x y = x * y := rfl
theorem e_cmI_eql (x y : Int) : cmI .eql x y = (x == y) := rfl
theorem e_cmI_neq (x y : Int) : cmI .neq x y = (x != y) := rfl
theorem e_cmI_lss (x y : Int) : cmI .lss x y = decide (x < y) := rfl
theorem e_cmI_leq (x y : Int) : cmI .leq x y = decide (x ≤ y) := rfl
theorem e_cmI_gtr (x y : Int) : cmI .gtr x y = decide (y < x) := rfl
theorem e_cmI_geq (x y : Int) : cmI .geq x y = decide (y ≤ x) := rfl
theorem e_dvI_quo (k : IntKind) (x y : Int) : dvI .quo k x y = k.wrap (x.tdiv y) := rfl
theorem e_dvI_rem (k : IntKind) (x y : Int) : dvI .rem k x y = x.tmod y := rfl
theorem e_shI_shl (k : IntKind) (x y : Int) : shI .shl k x y = k.wrap (x * 2 ^ min y.toNat k.bits) := rfl
theorem e_shI_shr (k : IntKind) (x y : Int) : shI .shr k x y = x.fdiv (2 ^ min y.toNat k.bits) := rfl
theorem e_loOf_no (r : List AV) : loOf false r = 0 := by cases r <;> rfl
theorem e_loOf_yes (x : AV) (r : List AV) : loOf true (x :: r) = asI x := rfl
theorem e_hiOf_no (lo : Bool) (n : Nat) (r : List AV) : hiOf lo false n r = n := by rcases r with _ | ⟨a, _ | ⟨b, _ | ⟨d, r⟩⟩⟩ <;> simp [hiOf]
theorem e_hiOf_one (n : Nat) (x : AV) : hiOf false true n [x] = asI x := rfl
theorem e_hiOf_two (n : Nat) (x y : AV) : hiOf true true n [x, y] = asI y := rfl
theorem e_bdOk_nil : bdOk false false [] = True := by simp [bdOk]
theorem e_bdOk_lo (x : AV) : bdOk true false [x] = isI .i64 x := by simp [bdOk]
theorem e_bdOk_hi (x : AV) : bdOk false true [x] = isI .i64 x := by simp [bdOk]
theorem e_bdOk_two (x y : AV) : bdOk true true [x, y] = (isI .i64 x ∧ isI .i64 y) := by simp [bdOk]
theorem e_bldC_int (z : List AV) (q m : Nat) (ps : List (Nat × Nat)) (r : List AV) (k : IntKind) (n : Int) : bldC z ((q, m) :: ps) ((.int k n) :: r) = bldC (z.set q (.int k n)) ps r := rfl
theorem e_bldOk_int (n1 q m : Nat) (ps : List (Nat × Nat)) (r : List AV) (k : IntKind) (n : Int) : bldOk n1 ((q, m) :: ps) ((.int k n) :: r) = (one (.int k n) ∧ m = 1 ∧ q < n1 ∧ bldOk n1 ps r) := rfl
theorem e_bldC_bool (z : List AV) (q m : Nat) (ps : List (Nat × Nat)) (r : List AV) (b : Bool) : bldC z ((q, m) :: ps) ((.bool b) :: r) = bldC (z.set q (.bool b)) ps r := rfl
theorem e_bldOk_bool (n1 q m : Nat) (ps : List (Nat × Nat)) (r : List AV) (b : Bool) : bldOk n1 ((q, m) :: ps) ((.bool b) :: r) = (one (.bool b) ∧ m = 1 ∧ q < n1 ∧ bldOk n1 ps r) := rfl
theorem e_bldC_str (z : List AV) (q m : Nat) (ps : List (Nat × Nat)) (r : List AV) (l : List UInt8) : bldC z ((q, m) :: ps) ((.str l) :: r) = bldC (z.set q (.str l)) ps r := rfl
theorem e_bldOk_str (n1 q m : Nat) (ps : List (Nat × Nat)) (r : List AV) (l : List UInt8) : bldOk n1 ((q, m) :: ps) ((.str l) :: r) = (one (.str l) ∧ m = 1 ∧ q < n1 ∧ bldOk n1 ps r) := rfl
theorem e_bldC_agg (z : List AV) (o m : Nat) (ps : List (Nat × Nat)) (cs r : List AV) : bldC z ((o, m) :: ps) (.agg cs :: r) = bldC (splc z o cs) ps r := rfl
theorem e_bldOk_agg (n o m : Nat) (ps : List (Nat × Nat)) (cs r : List AV) : bldOk n ((o, m) :: ps) (.agg cs :: r) = (cs.length = m ∧ o + m ≤ n ∧ bldOk n ps r) := rfl
theorem e_bldC_ptr (z : List AV) (q m : Nat) (ps : List (Nat × Nat)) (r : List AV) (b o : Nat) : bldC z ((q, m) :: ps) ((.ptr b o) :: r) = bldC (z.set q (.ptr b o)) ps r := rfl
theorem e_bldOk_ptr (n1 q m : Nat) (ps : List (Nat × Nat)) (r : List AV) (b o : Nat) : bldOk n1 ((q, m) :: ps) ((.ptr b o) :: r) = (one (.ptr b o) ∧ m = 1 ∧ q < n1 ∧ bldOk n1 ps r) := rfl
theorem e_bldC_xp (z : List AV) (q m : Nat) (ps : List (Nat × Nat)) (r : List AV) (cs : List AV) (o : Nat) : bldC z ((q, m) :: ps) ((.xp cs o) :: r) = bldC (z.set q (.xp cs o)) ps r := rfl
theorem e_bldOk_xp (n1 q m : Nat) (ps : List (Nat × Nat)) (r : List AV) (cs : List AV) (o : Nat) : bldOk n1 ((q, m) :: ps) ((.xp cs o) :: r) = (one (.xp cs o) ∧ m = 1 ∧ q < n1 ∧ bldOk n1 ps r) := rfl
theorem e_bldC_sl (z : List AV) (q m : Nat) (ps : List (Nat × Nat)) (r : List AV) (es b o n c : Nat) : bldC z ((q, m) :: ps) ((.sl es b o n c) :: r) = bldC (z.set q (.sl es b o n c)) ps r := rfl
theorem e_bldOk_sl (n1 q m : Nat) (ps : List (Nat × Nat)) (r : List AV) (es b o n c : Nat) : bldOk n1 ((q, m) :: ps) ((.sl es b o n c) :: r) = (one (.sl es b o n c) ∧ m = 1 ∧ q < n1 ∧ bldOk n1 ps r) := rfl
theorem e_bldC_isl (z : List AV) (q m : Nat) (ps : List (Nat × Nat)) (r : List AV) (n : Nat) (cs : List AV) : bldC z ((q, m) :: ps) ((.isl n cs) :: r) = bldC (z.set q (.isl n cs)) ps r := rfl
theorem e_bldOk_isl (n1 q m : Nat) (ps : List (Nat × Nat)) (r : List AV) (n : Nat) (cs : List AV) : bldOk n1 ((q, m) :: ps) ((.isl n cs) :: r) = (one (.isl n cs) ∧ m = 1 ∧ q < n1 ∧ bldOk n1 ps r) := rfl
theorem e_bldC_nils (z : List AV) (q m : Nat) (ps : List (Nat × Nat)) (r : List AV) : bldC z ((q, m) :: ps) (.nils :: r) = bldC (z.set q .nils) ps r := rfl
theorem e_bldOk_nils (n1 q m : Nat) (ps : List (Nat × Nat)) (r : List AV) : bldOk n1 ((q, m) :: ps) (.nils :: r) = (one .nils ∧ m = 1 ∧ q < n1 ∧ bldOk n1 ps r) := rfl
theorem e_bldC_cl (z : List AV) (q m : Nat) (ps : List (Nat × Nat)) (r : List AV) (f : FuncId) (cs : List AV) : bldC z ((q, m) :: ps) ((.cl f cs) :: r) = bldC (z.set q (.cl f cs)) ps r := rfl
theorem e_bldOk_cl (n1 q m : Nat) (ps : List (Nat × Nat)) (r : List AV) (f : FuncId) (cs : List AV) : bldOk n1 ((q, m) :: ps) ((.cl f cs) :: r) = (one (.cl f cs) ∧ m = 1 ∧ q < n1 ∧ bldOk n1 ps r) := rfl
theorem e_bldC_mp (z : List AV) (q m : Nat) (ps : List (Nat × Nat)) (r : List AV) (b : Nat) : bldC z ((q, m) :: ps) ((.mp b) :: r) = bldC (z.set q (.mp b)) ps r := rfl
theorem e_bldOk_mp (n1 q m : Nat) (ps : List (Nat × Nat)) (r : List AV) (b : Nat) : bldOk n1 ((q, m) :: ps) ((.mp b) :: r) = (one (.mp b) ∧ m = 1 ∧ q < n1 ∧ bldOk n1 ps r) := rfl
theorem e_bldC_lit (z : List AV) (q m : Nat) (ps : List (Nat × Nat)) (r : List AV) (v : Value) : bldC z ((q, m) :: ps) ((.lit v) :: r) = bldC (z.set q (.lit v)) ps r := rfl
theorem e_bldOk_lit (n1 q m : Nat) (ps : List (Nat × Nat)) (r : List AV) (v : Value) : bldOk n1 ((q, m) :: ps) ((.lit v) :: r) = (one (.lit v) ∧ m = 1 ∧ q < n1 ∧ bldOk n1 ps r) := rfl
theorem e_bldC_nil (z : List AV) : bldC z [] [] = z := rfl
theorem e_bldOk_nil (n : Nat) : bldOk n [] [] = True := by simp [bldOk]
attribute [go_sem] fs_T fs_H frzL_cells XP_nil XP_q XP_al XP_bx XP_sto XP_pd XD_nil XD_q XD_al XD_bx XD_sto XD_pd xw_skip xw_reg xw_dreg xw_seq xw_block xw_loop xw_exit xw_ret seqT_normal seqT_exit seqT_ret qOk qRes St.put St.putB St.nw St.putO lookb_nil lookb_cons' look_nil look_cons' cokAll argT callOk tmpsOf gdT qFoot callFoot nmAll subT subH rhoNot nmB renB rens Sub beq_true' beq_false' bne_tt bne_ff and_true_imp bif_tf bif_or bif_and cond_true cond_false true_and and_true List.map_cons List.map_nil List.cons_append List.nil_append Option.toList_some Option.toList_none List.getD_cons_zero List.getD_cons_succ List.set_cons_zero List.set_cons_succ List.take_succ_cons List.take_zero List.drop_succ_cons List.drop_zero List.length_cons List.length_nil Nat.zero_add Nat.add_zero Bool.and_true Bool.true_and Bool.and_false Bool.false_and Bool.or_true Bool.true_or Bool.or_false Bool.false_or Bool.not_true Bool.not_false Bool.not_not forall_const implies_true true_implies Bool.false_eq_true false_implies  imp_self e_strip_int e_cok_int e_cellsA_int e_frzA_int e_frzS_int e_frz_int e_one_int e_bxOk_int e_nameOf_int e_nmOk_int e_ren_int e_strip_bool e_cok_bool e_cellsA_bool e_frzA_bool e_frzS_bool e_frz_bool e_one_bool e_bxOk_bool e_nameOf_bool e_nmOk_bool e_ren_bool e_strip_str e_cok_str e_cellsA_str e_frzA_str e_frzS_str e_frz_str e_one_str e_bxOk_str e_nameOf_str e_nmOk_str e_ren_str e_strip_agg e_cok_agg e_frzS_agg e_frz_agg e_nameOf_agg e_strip_tup e_cok_tup e_cellsA_tup e_frzA_tup e_frzS_tup e_nameOf_tup e_strip_ptr e_cok_ptr e_cellsA_ptr e_frzA_ptr e_frzS_ptr e_frz_ptr e_one_ptr e_bxOk_ptr e_strip_xp e_cok_xp e_cellsA_xp e_frzA_xp e_frzS_xp e_frz_xp e_one_xp e_bxOk_xp e_nameOf_xp e_strip_sl e_cok_sl e_cellsA_sl e_frzA_sl e_frz_sl e_one_sl e_bxOk_sl e_strip_isl e_cok_isl e_cellsA_isl e_frzA_isl e_frzS_isl e_frz_isl e_one_isl e_bxOk_isl e_nameOf_isl e_strip_nils e_cok_nils e_cellsA_nils e_frzA_nils e_frzS_nils e_frz_nils e_one_nils e_bxOk_nils e_nameOf_nils e_nmOk_nils e_ren_nils e_strip_cl e_cok_cl e_cellsA_cl e_frzA_cl e_frzS_cl e_frz_cl e_one_cl e_bxOk_cl e_nameOf_cl e_strip_mp e_cok_mp e_cellsA_mp e_frzA_mp e_frzS_mp e_frz_mp e_one_mp e_bxOk_mp e_strip_lit e_cok_lit e_cellsA_lit e_frzA_lit e_frzS_lit e_frz_lit e_nameOf_lit e_nmOk_lit e_ren_lit e_strip_any e_cok_any e_cellsA_any e_frzA_any e_frzS_any e_frz_any e_nameOf_any e_nmOk_any e_ren_any e_strip_cnd e_cok_cnd e_cellsA_agg e_frzS_sl e_frzA_agg e_frz_tup e_bxOk_agg e_one_nilp e_one_nilm e_nameOf_ptr e_nameOf_sl e_nameOf_mp e_nameOf_nil e_blkOf_eq e_blkO_some e_blkO_none e_asI_int e_asB_bool e_asS_str e_isI_int e_isN_int e_isB_bool e_isS_str e_ob_none e_ob_some e_cw_none e_cw_some e_gB_none e_gB_some e_gB1_bool e_gB1_cnd e_gOk_none e_gOk_some e_gOk1_bool e_gOk1_cnd e_wrS_int e_wrS_bool e_wrS_str e_wrS_ref e_okS_int e_okS_bool e_okS_str e_okS_ref e_wr_sc e_wr_ag e_wrOk_sc e_wrOk_ag e_putC_sc e_putC_ag e_stOkC_sc e_stOkC_ag e_stOk_ptr e_stOkB_cells e_ptrB_ptr e_ptrO_ptr e_cellsB_cells e_rv_t e_rv_cell e_rvC_ptr e_rvB_cells e_ren_nil0 e_rens_nil0 e_renB_nil0 e_rl_nil e_rl_cons e_ren_agg e_ren_tup e_ren_xp e_ren_isl e_ren_ptr e_ren_sl e_ren_mp e_ren_cl e_nmOk_agg e_nmOk_tup e_nmOk_xp e_nmOk_isl e_nmOk_cl e_nmOk_ptr e_nmOk_sl e_nmOk_mp e_rvOk_nil e_rvOk_t e_rvOk_cell e_rvOkC_ptr e_rvOkB_cells e_rvs_one e_rvs_two e_pureK_ret e_pureK_normal e_pureK_exit e_blockK_normal e_blockK_ret e_blockK_exit e_loopK_normal e_loopK_ret e_loopK_exit e_evT_t e_evT_c e_evT_gl e_evs_nil e_evs_cons e_cokP_pick e_cokP_mv e_cokP_not e_cokP_ar e_cokP_dv e_cokP_bt e_cokP_sh e_cokP_cm e_cokP_cB e_cokP_cS e_cokP_cat e_cokP_cv e_cokP_fld e_cokP_ixA e_cokP_ixS e_cokP_fadr e_cokP_iadrA e_cokP_iadrS e_cokP_ld e_cokP_lenS e_cokP_lenL e_cokP_lenM e_cokP_slS e_cokP_slL e_cokP_ext e_cokP_nilck e_cokP_bld e_cokP_mkf e_cokP_mn e_cokP_mx e_cokP_nilP e_cokP_b2s e_qv_mv e_qp_mv e_qv_not e_qp_not e_qv_pick e_qp_pick e_qv_ar e_qp_ar e_qv_dv e_qp_dv e_qv_bt e_qp_bt e_qv_sh e_qp_sh e_qv_cm e_qp_cm e_qv_cB e_qp_cB e_qv_cS e_qp_cS e_qv_cat e_qp_cat e_qv_cv e_qp_cv e_qv_fld e_qp_fld e_qv_ixA e_qp_ixA e_qv_ixS e_qp_ixS e_qv_fadr e_qp_fadr e_qv_fadrx e_qp_fadrx e_qv_iadrA e_qp_iadrA e_qv_iadrAx e_qp_iadrAx e_qv_iadrS e_qp_iadrS e_qv_iadrSx e_qp_iadrSx e_qv_ld e_qp_ld e_qv_ldx e_qp_ldx e_qv_lenS e_qp_lenS e_qv_lenLi e_qp_lenLi e_qv_lenLs e_qp_lenLs e_qv_lenLn e_qp_lenLn e_qv_lenM e_qp_lenM e_qv_slS e_qp_slS e_qv_slLi e_qp_slLi e_qv_slLs e_qp_slLs e_qv_ext e_qp_ext e_qv_nilck e_qp_nilck e_qv_nilckx e_qp_nilckx e_qv_bld e_qp_bld e_qv_mkf e_qp_mkf e_qv_mn e_qp_mn e_qv_mx e_qp_mx e_qv_nilPn e_qp_nilPn e_qv_nilPp e_qp_nilPp e_qv_nilPx e_qp_nilPx e_qv_b2sn e_qp_b2sn e_qv_b2si e_qp_b2si e_qv_b2ss e_qp_b2ss e_arI_add e_arI_sub e_arI_mul e_cmI_eql e_cmI_neq e_cmI_lss e_cmI_leq e_cmI_gtr e_cmI_geq e_dvI_quo e_dvI_rem e_shI_shl e_shI_shr e_loOf_no e_loOf_yes e_hiOf_no e_hiOf_one e_hiOf_two e_bdOk_nil e_bdOk_lo e_bdOk_hi e_bdOk_two e_bldC_int e_bldOk_int e_bldC_bool e_bldOk_bool e_bldC_str e_bldOk_str e_bldC_agg e_bldOk_agg e_bldC_ptr e_bldOk_ptr e_bldC_xp e_bldOk_xp e_bldC_sl e_bldOk_sl e_bldC_isl e_bldOk_isl e_bldC_nils e_bldOk_nils e_bldC_cl e_bldOk_cl e_bldC_mp e_bldOk_mp e_bldC_lit e_bldOk_lit e_bldC_nil e_bldOk_nil
/-! ### Rows of numbers -/
def ints (l : List Int) : List AV := l.map (.int .i64)
def bools (l : List Bool) : List AV := l.map .bool
def byts (l : List UInt8) : List AV := l.map fun (b : UInt8) => .int .u8 b.toNat
theorem ints_len (l : List Int) : (ints l).length = l.length := by simp [ints]
theorem bools_len (l : List Bool) : (bools l).length = l.length := by simp [bools]
theorem byts_len (l : List UInt8) : (byts l).length = l.length := by simp [byts]
theorem ints_get {l : List Int} {i : Nat} (h : i < l.length) : (ints l).getD i .any = .int .i64 (l.getD i 0) := by simp [ints, List.getD, h]
theorem bools_get {l : List Bool} {i : Nat} (h : i < l.length) : (bools l).getD i .any = .bool (l.getD i false) := by simp [bools, List.getD, h]
theorem byts_get {l : List UInt8} {i : Nat} (h : i < l.length) : (byts l).getD i .any = .int .u8 (l.getD i 0).toNat := by simp [byts, List.getD, h]
theorem ints_take (l : List Int) (n : Nat) : (ints l).take n = ints (l.take n) := by simp [ints, List.map_take]
theorem ints_drop (l : List Int) (n : Nat) : (ints l).drop n = ints (l.drop n) := by simp [ints, List.map_drop]
theorem byts_take (l : List UInt8) (n : Nat) : (byts l).take n = byts (l.take n) := by simp [byts, List.map_take]
theorem byts_drop (l : List UInt8) (n : Nat) : (byts l).drop n = byts (l.drop n) := by simp [byts, List.map_drop]
theorem bools_take (l : List Bool) (n : Nat) : (bools l).take n = bools (l.take n) := by simp [bools, List.map_take]
theorem bools_drop (l : List Bool) (n : Nat) : (bools l).drop n = bools (l.drop n) := by simp [bools, List.map_drop]
theorem ints_app (l m : List Int) : ints l ++ ints m = ints (l ++ m) := by simp [ints]
theorem byts_app (l m : List UInt8) : byts l ++ byts m = byts (l ++ m) := by simp [byts]
theorem take_getD {α : Type} {l : List α} {b j : Nat} {d : α} (h : j < b) : (l.take b).getD j d = l.getD j d := by simp only [List.getD, List.getElem?_take, if_pos h]
theorem drop_getD {α : Type} {l : List α} {a j : Nat} {d : α} : (l.drop a).getD j d = l.getD (a + j) d := by simp only [List.getD, List.getElem?_drop]
theorem getD_setD {α : Type} {l : List α} {i j : Nat} {v d : α} (h : i < l.length) : (l.set i v).getD j d = if i = j then v else l.getD j d := by
  simp only [List.getD, List.getElem?_set]
  split
  · next e => subst e; simp [h]
  · rfl
theorem take_all {α : Type} {l : List α} {n : Nat} (h : l.length ≤ n) : l.take n = l := List.take_of_length_le h
theorem getD_app_l {l r : List AV} {i : Nat} (h : i < l.length) : (l ++ r).getD i .any = l.getD i .any := by simp only [List.getD]; rw [List.getElem?_append_left h]
theorem set_app_l {l r : List AV} {i : Nat} {v : AV} (h : i < l.length) : (l ++ r).set i v = l.set i v ++ r := by rw [List.set_append, if_pos h]
theorem nm_take (n m : Nat) (l : List AV) (h : nmAll n l) : nmAll n (l.take m) := nmAll_iff.2 fun x hx => nmAll_iff.1 h x (List.mem_of_mem_take hx)
theorem nm_drop (n m : Nat) (l : List AV) (h : nmAll n l) : nmAll n (l.drop m) := nmAll_iff.2 fun x hx => nmAll_iff.1 h x (List.mem_of_mem_drop hx)
theorem imp_nf (b : Bool) : (b = false → (!b) = true) = True := by cases b <;> simp
theorem imp_nf' (b : Bool) : ((!b) = true → b = false) = True := by cases b <;> simp
theorem rens_ints (ρ : Nat → Nat) (l : List Int) : rens ρ (ints l) = ints l := by rw [rens_eq]; simp [ints, ren]
theorem rens_byts (ρ : Nat → Nat) (l : List UInt8) : rens ρ (byts l) = byts l := by rw [rens_eq]; simp [byts, ren]
theorem rens_bools (ρ : Nat → Nat) (l : List Bool) : rens ρ (bools l) = bools l := by rw [rens_eq]; simp [bools, ren]
theorem rens_app (ρ : Nat → Nat) (l m : List AV) : rens ρ (l ++ m) = rens ρ l ++ rens ρ m := by simp [rens_eq]
theorem ints_set (l : List Int) (i : Nat) (n : Int) : (ints l).set i (.int .i64 n) = ints (l.set i n) := by simp [ints, List.map_set]
theorem bools_set (l : List Bool) (i : Nat) (n : Bool) : (bools l).set i (.bool n) = bools (l.set i n) := by simp [bools, List.map_set]
theorem cut_get {l : List AV} {a b j : Nat} (h : j < b) : ((l.drop a).take b).getD j .any = l.getD (a + j) .any := by simp only [List.getD, List.getElem?_take, List.getElem?_drop, if_pos h]
theorem take_get {l : List AV} {b j : Nat} (h : j < b) : (l.take b).getD j .any = l.getD j .any := by simp only [List.getD, List.getElem?_take, if_pos h]
theorem drop_get {l : List AV} {a j : Nat} : (l.drop a).getD j .any = l.getD (a + j) .any := by simp only [List.getD, List.getElem?_drop]
theorem cut_len {l : List AV} {a b : Nat} (h : a + b ≤ l.length) : ((l.drop a).take b).length = b := by simp; omega
theorem take_len {l : List AV} {b : Nat} (h : b ≤ l.length) : (l.take b).length = b := by simp; omega
theorem splc_full {cs vs : List AV} (h : cs.length = vs.length) : splc cs 0 vs = vs := by unfold splc; simp [h]
theorem splc_nil (cs : List AV) (o : Nat) : splc cs o [] = cs := by unfold splc; simp
theorem splc_cons (c v : AV) (cs vs : List AV) : splc (c :: cs) 0 (v :: vs) = v :: splc cs 0 vs := by unfold splc; simp
theorem splc_succ (c : AV) (cs vs : List AV) (o : Nat) : splc (c :: cs) (o + 1) vs = c :: splc cs o vs := by unfold splc; simp [Nat.add_right_comm]
theorem splc_lenC {cs vs : List AV} {o : Nat} (h : o + vs.length ≤ cs.length) : (splc cs o vs).length = cs.length := by unfold splc; simp; omega
theorem nm_ints (n : Nat) (l : List Int) : nmAll n (ints l) = True := eq_true (nmAll_iff.2 fun x hx => by simp [ints] at hx; obtain ⟨a, _, rfl⟩ := hx; simp [nmOk])
theorem nm_bools (n : Nat) (l : List Bool) : nmAll n (bools l) = True := eq_true (nmAll_iff.2 fun x hx => by simp [bools] at hx; rcases hx with ⟨_, rfl⟩ | ⟨_, rfl⟩ <;> simp [nmOk])
theorem nm_byts (n : Nat) (l : List UInt8) : nmAll n (byts l) = True := eq_true (nmAll_iff.2 fun x hx => by simp [byts] at hx; obtain ⟨a, _, rfl⟩ := hx; simp [nmOk])
theorem nm_app (n : Nat) (l m : List AV) : nmAll n (l ++ m) = (nmAll n l ∧ nmAll n m) := by simp only [nmAll_iff, List.mem_append, eq_iff_iff]; exact ⟨fun h => ⟨fun x hx => h x (.inl hx), fun x hx => h x (.inr hx)⟩, fun h x hx => hx.elim (h.1 x) (h.2 x)⟩
theorem toB_byts (l : List UInt8) : toB (byts l) = l := by
  simp only [toB, byts, List.map_map]
  conv => rhs; rw [← List.map_id l]
  refine List.map_congr_left fun b _ => ?_
  simp [asI]
theorem byts_u8 (l : List UInt8) : ∀ v ∈ byts l, isI .u8 v := fun v hv => by simp [byts] at hv; obtain ⟨a, _, rfl⟩ := hv; simp [isI]
theorem all_byts (l : List UInt8) : (∀ v ∈ byts l, isI .u8 v) = True := eq_true (byts_u8 l)
theorem frz_ints (s : FS) (l : List Int) : (ints l).map (frzS s) = ints l := by simp [ints, frzS]
theorem frz_bools (s : FS) (l : List Bool) : (bools l).map (frzS s) = bools l := by simp [bools, frzS]
theorem wrap_i64 {n : Int} (h0 : -9223372036854775808 ≤ n) (h1 : n < 9223372036854775808) : IntKind.i64.wrap n = n := by rw [IntKind.wrap_i64]; omega
theorem wrap_u32 {n : Int} (h0 : 0 ≤ n) (h1 : n < 4294967296) : IntKind.u32.wrap n = n := by rw [IntKind.wrap_u32]; omega
theorem wrap_u8 {n : Int} (h0 : 0 ≤ n) (h1 : n < 256) : IntKind.u8.wrap n = n := by rw [IntKind.wrap_u8]; omega
theorem wrap_u64 {n : Int} (h0 : 0 ≤ n) (h1 : n < 18446744073709551616) : IntKind.u64.wrap n = n := by simp [IntKind.wrap, IntKind.bits, IntKind.signed]; omega
theorem cast0 : ((0 : Nat) : Int) = 0 := rfl
theorem castn (n : Nat) : ((no_index (OfNat.ofNat n) : Nat) : Int) = OfNat.ofNat n := rfl
theorem cast_succ (k : Nat) : ((k : Int) + 1) = ((k + 1 : Nat) : Int) := by omega
/-- A test, taken. -/
theorem xw_if {P : Program} {c : Cx} {Q : EX → St → Prop} {s : St} {x : TV} {a b : TC} {t : Bool} (h : evT c.gl s.fs x = .bool t) (ht : t = true → xw P c a Q s) (hf : t = false → xw P c b Q s) : xw P c (.cond x a b) Q s := by
  rw [xw_cond, h]
  exact ⟨trivial, ht, hf⟩
attribute [go_sem] ints_len bools_len byts_len ints_get bools_get byts_get ints_take ints_drop byts_take byts_drop bools_take bools_drop take_getD drop_getD getD_app_l set_app_l take_all imp_nf imp_nf' rens_ints rens_byts rens_bools rens_app List.take_take Nat.min_self Nat.mul_one Nat.one_mul ints_set bools_set cut_get take_get drop_get cut_len take_len splc_full splc_nil splc_cons splc_succ splc_lenC nm_ints nm_bools nm_byts nm_app toB_byts all_byts frz_ints frz_bools wrap_i64 wrap_u32 wrap_u8 wrap_u64 Int.toNat_natCast cast0 castn AV.int.injEq AV.bool.injEq AV.str.injEq AV.agg.injEq AV.tup.injEq AV.isl.injEq AV.sl.injEq AV.ptr.injEq AV.xp.injEq Bk.cells.injEq
end Go.Proofs.Ytblimjilinkmbaa
