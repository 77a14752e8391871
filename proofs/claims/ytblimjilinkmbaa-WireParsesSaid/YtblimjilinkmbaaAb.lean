/- The quiet operations: what each yields of abstract values, and that the model's own operation yields it. No conditions but the ones that stand in each. -/
import Derived.Test.YtblimjilinkmbaaAa
namespace Go.Proofs.Ytblimjilinkmbaa
set_option linter.all false
set_option linter.unusedSimpArgs false
open Go.RowKit

/-- Kinds of one cell; types: one cell, or a row of n. -/
inductive SK where
  | int (k : IntKind)
  | bool
  | str
  | ref
inductive TY where
  | sc (k : SK)
  | ag (n : Nat)

def asI : AV → Int
  | .int _ n => n
  | _ => 0
def asB : AV → Bool
  | .bool b => b
  | _ => false
def asS : AV → List UInt8
  | .str l => l
  | _ => []
def isI (k : IntKind) : AV → Prop
  | .int k' _ => k' = k
  | _ => False
def isN : AV → Prop
  | .int _ _ => True
  | _ => False
def isB : AV → Prop
  | .bool _ => True
  | _ => False
def isS : AV → Prop
  | .str _ => True
  | _ => False
/-- A value of one cell. -/
def one : AV → Prop
  | .int _ _ | .bool _ | .str _ | .ptr _ _ | .xp _ _ | .sl _ _ _ _ _ | .isl _ _ | .nils | .cl _ _ | .mp _ => True
  | .lit v => v.oneCell' = true
  | _ => False

def wrS : SK → AV → AV
  | .int k, v => .int k (asI v)
  | .bool, v => .bool (asB v)
  | .str, v => .str (asS v)
  | .ref, v => v
def okS : SK → AV → Prop
  | .int k, v => isI k v
  | .bool, v => isB v
  | .str, v => isS v
  | .ref, _ => True
def wr : TY → List AV → Nat → AV
  | .sc k, cs, off => wrS k (cs.getD off .any)
  | .ag n, cs, off => .agg ((cs.drop off).take n)
def wrOk : TY → List AV → Nat → Prop
  | .sc k, cs, off => off < cs.length ∧ okS k (cs.getD off .any)
  | .ag n, cs, off => off + n ≤ cs.length

def arI : BinOp → Int → Int → Int
  | .add, x, y => x + y
  | .sub, x, y => x - y
  | .mul, x, y => x * y
  | _, _, _ => 0
def cmI : BinOp → Int → Int → Bool
  | .eql, x, y => x == y
  | .neq, x, y => x != y
  | .lss, x, y => decide (x < y)
  | .leq, x, y => decide (x ≤ y)
  | .gtr, x, y => decide (y < x)
  | .geq, x, y => decide (y ≤ x)
  | _, _, _ => false
def dvI : BinOp → IntKind → Int → Int → Int
  | .quo, k, x, y => k.wrap (x.tdiv y)
  | .rem, _, x, y => x.tmod y
  | _, _, _, _ => 0
def shI : BinOp → IntKind → Int → Int → Int
  | .shl, k, x, y => k.wrap (x * 2 ^ min y.toNat k.bits)
  | .shr, k, x, y => x.fdiv (2 ^ min y.toNat k.bits)
  | _, _, _, _ => 0
/-- The bytes that cells hold. -/
def toB (cs : List AV) : List UInt8 := cs.map fun v => UInt8.ofNat (asI v).toNat

inductive Q1 where
  | mv | not | pick | ar (o : BinOp) (k : IntKind) | dv (o : BinOp) (k : IntKind) | bt (o : BinOp) (k : IntKind) | sh (o : BinOp) (k : IntKind) | cm (o : BinOp) (k : IntKind)
  | cB (ne : Bool) | cS (ne : Bool) | cat | cv (k : IntKind) | fld (ty : TY) (off : Nat) | ixA (es len : Nat) (ty : TY) | ixS | fadr (off : Nat) | iadrA (len es : Nat) | iadrS (es : Nat)
  | ld (ty : TY) | lenS | lenL | lenM | slS (lo hi : Bool) | slL (es : Nat) (lo hi : Bool) | ext (i : Nat) | nilck | bld (zero : List AV) (parts : List (Nat × Nat)) | mkf (f : FuncId) | mn (k : IntKind) | mx (k : IntKind)
  | nilP (ne : Bool) | b2s

/-- The cells of a value. -/
def cellsA : AV → List AV
  | .agg cs => cs
  | v => [v]
def splc (cs : List AV) (off : Nat) (vs : List AV) : List AV := cs.take off ++ vs ++ cs.drop (off + vs.length)
/-- A cell set, or a row of them. -/
def putC : TY → List AV → Nat → AV → List AV
  | .sc _, cs, off, v => cs.set off v
  | .ag _, cs, off, .agg vs => splc cs off vs
  | .ag _, cs, _, _ => cs
def bldC (cs : List AV) : List (Nat × Nat) → List AV → List AV
  | (off, _) :: ps, .agg vs :: r => bldC (splc cs off vs) ps r
  | (off, _) :: ps, v :: r => bldC (cs.set off v) ps r
  | _, _ => cs
def bldOk (n : Nat) : List (Nat × Nat) → List AV → Prop
  | (off, m) :: ps, .agg vs :: r => vs.length = m ∧ off + m ≤ n ∧ bldOk n ps r
  | (off, m) :: ps, v :: r => one v ∧ m = 1 ∧ off < n ∧ bldOk n ps r
  | [], [] => True
  | _, _ => False

/-- Bounds of a slice expression: low, high. -/
def loOf (lo : Bool) : List AV → Int
  | x :: _ => bif lo then asI x else 0
  | [] => 0
def hiOf (lo hi : Bool) (n : Nat) : List AV → Int
  | [_, y] => bif lo && hi then asI y else n
  | [x] => bif hi then asI x else n
  | _ => n
def bdOk (lo hi : Bool) : List AV → Prop
  | [x, y] => lo = true ∧ hi = true ∧ isI .i64 x ∧ isI .i64 y
  | [x] => isI .i64 x ∧ (lo != hi) = true
  | [] => lo = false ∧ hi = false
  | _ => False

/-- What a quiet operation yields, of its operands and of the block that the first one points into. -/
def qv : Q1 → List AV → Bk → AV
  | .mv, [x], _ => x
  | .not, [x], _ => .bool (!asB x)
  | .pick, [c, x, y], _ => .bool (bif asB c then asB x else asB y)
  | .ar o k, [x, y], _ => .int k (k.wrap (arI o (asI x) (asI y)))
  | .dv o k, [x, y], _ => .int k (dvI o k (asI x) (asI y))
  | .bt o k, [x, y], _ => .int k (bits o k (asI x) (asI y))
  | .sh o k, [x, y], _ => .int k (shI o k (asI x) (asI y))
  | .cm o _, [x, y], _ => .bool (cmI o (asI x) (asI y))
  | .cB ne, [x, y], _ => .bool (ne != (asB x == asB y))
  | .cS ne, [x, y], _ => .bool (ne != (asS x == asS y))
  | .cat, [x, y], _ => .str (asS x ++ asS y)
  | .cv k, [x], _ => .int k (k.wrap (asI x))
  | .fld ty off, [.agg cs], _ => wr ty cs off
  | .ixA es _ ty, [.agg cs, i], _ => wr ty cs ((asI i).toNat * es)
  | .ixS, [x, i], _ => .int .u8 ((asS x).getD (asI i).toNat 0).toNat
  | .fadr o, [.ptr b off], _ => .ptr b (off + o)
  | .fadr o, [.xp cs off], _ => .xp cs (off + o)
  | .iadrA _ es, [.ptr b off, i], _ => .ptr b (off + (asI i).toNat * es)
  | .iadrA _ es, [.xp cs off, i], _ => .xp cs (off + (asI i).toNat * es)
  | .iadrS es, [.sl _ b off _ _, i], _ => .ptr b (off + (asI i).toNat * es)
  | .iadrS es, [.isl _ cs, i], _ => .xp cs ((asI i).toNat * es)
  | .ld ty, [.ptr _ off], .cells cs => wr ty cs off
  | .ld ty, [.xp cs off], _ => wr ty cs off
  | .lenS, [x], _ => .int .i64 (asS x).length
  | .lenL, [.isl n _], _ => .int .i64 n
  | .lenL, [.sl _ _ _ n _], _ => .int .i64 n
  | .lenL, [.nils], _ => .int .i64 0
  | .lenM, [.mp _], .mapb kvs => .int .i64 kvs.length
  | .slS lo hi, x :: r, _ => .str (((asS x).drop (loOf lo r).toNat).take ((hiOf lo hi (asS x).length r).toNat - (loOf lo r).toNat))
  | .slL es lo hi, .isl n cs :: r, _ => .isl ((hiOf lo hi n r).toNat - (loOf lo r).toNat) ((cs.drop ((loOf lo r).toNat * es)).take (((hiOf lo hi n r).toNat - (loOf lo r).toNat) * es))
  | .slL es lo hi, .sl _ b off n c :: r, _ => .sl es b (off + (loOf lo r).toNat * es) ((hiOf lo hi n r).toNat - (loOf lo r).toNat) (c - (loOf lo r).toNat)
  | .ext i, [.tup vs], _ => vs.getD i .any
  | .nilck, [x], _ => x
  | .bld z ps, vs, _ => .agg (bldC z ps vs)
  | .mkf f, vs, _ => .cl f vs
  | .mn k, [x, y], _ => .int k (if asI y < asI x then asI y else asI x)
  | .mx k, [x, y], _ => .int k (if asI y > asI x then asI y else asI x)
  | .nilP ne, [.lit (.pointer none)], _ => .bool (!ne)
  | .nilP ne, [.ptr _ _], _ => .bool ne
  | .nilP ne, [.xp _ _], _ => .bool ne
  | .b2s, [.sl _ _ off n _], .cells cs => .str (toB ((cs.drop off).take n))
  | .b2s, [.isl n cs], _ => .str (toB (cs.take n))
  | .b2s, [.nils], _ => .str []
  | _, _, _ => .any

/-- What it asks. -/
def qp : Q1 → List AV → Bk → Prop
  | .mv, [_], _ => True
  | .not, [x], _ => isB x
  | .pick, [c, x, y], _ => isB c ∧ (asB c = true → isB x) ∧ (asB c = false → isB y)
  | .ar _ k, [x, y], _ => isI k x ∧ isI k y
  | .dv _ k, [x, y], _ => isI k x ∧ isI k y ∧ asI y ≠ 0
  | .bt _ k, [x, y], _ => isI k x ∧ isI k y
  | .sh _ k, [x, y], _ => isI k x ∧ isN y ∧ 0 ≤ asI y
  | .cm _ k, [x, y], _ => isI k x ∧ isI k y
  | .cB _, [x, y], _ => isB x ∧ isB y
  | .cS _, [x, y], _ => isS x ∧ isS y
  | .cat, [x, y], _ => isS x ∧ isS y ∧ (asS x).length + (asS y).length ≤ 9223372036854775807
  | .cv _, [x], _ => isN x
  | .fld ty off, [.agg cs], _ => wrOk ty cs off
  | .ixA es len ty, [.agg cs, i], _ => isN i ∧ 0 ≤ asI i ∧ asI i < len ∧ wrOk ty cs ((asI i).toNat * es)
  | .ixS, [x, i], _ => isS x ∧ isN i ∧ 0 ≤ asI i ∧ asI i < (asS x).length
  | .fadr _, [.ptr _ _], _ => True
  | .fadr _, [.xp _ _], _ => True
  | .iadrA len _, [.ptr _ _, i], _ => isN i ∧ 0 ≤ asI i ∧ asI i < len
  | .iadrA len _, [.xp _ _, i], _ => isN i ∧ 0 ≤ asI i ∧ asI i < len
  | .iadrS es, [.sl es' _ _ n _, i], _ => es' = es ∧ isN i ∧ 0 ≤ asI i ∧ asI i < n
  | .iadrS es, [.isl n cs, i], _ => isN i ∧ 0 ≤ asI i ∧ asI i < n ∧ (asI i).toNat * es < cs.length
  | .ld ty, [.ptr _ off], .cells cs => wrOk ty cs off
  | .ld ty, [.xp cs off], _ => wrOk ty cs off
  | .lenS, [x], _ => isS x
  | .lenL, [.isl _ _], _ => True
  | .lenL, [.sl _ _ _ _ _], _ => True
  | .lenL, [.nils], _ => True
  | .lenM, [.mp _], .mapb _ => True
  | .slS lo hi, x :: r, _ => isS x ∧ bdOk lo hi r ∧ 0 ≤ loOf lo r ∧ loOf lo r ≤ hiOf lo hi (asS x).length r ∧ hiOf lo hi (asS x).length r ≤ (asS x).length
  | .slL es lo hi, .isl n cs :: r, _ => bdOk lo hi r ∧ 0 ≤ loOf lo r ∧ loOf lo r ≤ hiOf lo hi n r ∧ hiOf lo hi n r ≤ n ∧ cs.length ≤ n * es
  | .slL es lo hi, .sl es' _ _ n c :: r, _ => es' = es ∧ bdOk lo hi r ∧ 0 ≤ loOf lo r ∧ loOf lo r ≤ hiOf lo hi n r ∧ hiOf lo hi n r ≤ c ∧ loOf lo r < c
  | .ext i, [.tup vs], _ => i < vs.length
  | .nilck, [.ptr _ _], _ => True
  | .nilck, [.xp _ _], _ => True
  | .bld z ps, vs, _ => bldOk z.length ps vs
  | .mkf _, _, _ => True
  | .mn k, [x, y], _ => isI k x ∧ isI k y
  | .mx k, [x, y], _ => isI k x ∧ isI k y
  | .nilP _, [.lit (.pointer none)], _ => True
  | .nilP _, [.ptr _ _], _ => True
  | .nilP _, [.xp _ _], _ => True
  | .b2s, [.sl es _ off n _], .cells cs => es = 1 ∧ off + n ≤ cs.length ∧ ∀ v ∈ (cs.drop off).take n, isI .u8 v
  | .b2s, [.isl n cs], _ => n ≤ cs.length ∧ ∀ v ∈ cs.take n, isI .u8 v
  | .b2s, [.nils], _ => True
  | _, _, _ => False
end Go.Proofs.Ytblimjilinkmbaa
