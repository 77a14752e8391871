/- Packets and frames, said plainly. No conditions. -/
import Derived.Test.YtblimjilinkmbaaNb
import Derived.Test.YtblimjilinkmbaaSb
namespace Go.Proofs.Ytblimjilinkmbaa
set_option linter.all false
set_option linter.unusedSimpArgs false
open Go.RowKit

structure Pk where
  proto : Int
  frm : Int
  sport : Int
  dst : Int
  dport : Int
  ttl : Int
  id : Int
  flags : Int
  seq : Int
  ack : Int
  win : Int
  body : List UInt8
def Pk.enc (p : Pk) : List AV := [.int .i64 p.proto, .int .i64 p.frm, .int .i64 p.sport, .int .i64 p.dst, .int .i64 p.dport, .int .i64 p.ttl, .int .i64 p.id, .int .i64 p.flags, .int .i64 p.seq, .int .i64 p.ack, .int .i64 p.win, .str p.body]
def pk0 : Pk := ⟨0, 0, 0, 0, 0, 0, 0, 0, 0, 0, 0, []⟩

def pkRange (p : Pk) : Prop := (0 ≤ p.frm ∧ p.frm ≤ 4294967295) ∧ (0 ≤ p.dst ∧ p.dst ≤ 4294967295) ∧ (0 ≤ p.seq ∧ p.seq ≤ 4294967295) ∧ (0 ≤ p.ack ∧ p.ack ≤ 4294967295) ∧
  (0 ≤ p.sport ∧ p.sport ≤ 65535) ∧ (0 ≤ p.dport ∧ p.dport ≤ 65535) ∧ (0 ≤ p.id ∧ p.id ≤ 65535) ∧ (0 ≤ p.win ∧ p.win ≤ 65535) ∧ (1 ≤ p.ttl ∧ p.ttl ≤ 255) ∧ (0 ≤ p.flags ∧ p.flags ≤ 63)
instance (p : Pk) : Decidable (pkRange p) := by unfold pkRange; infer_instance
def pkForm (p : Pk) : Prop := (p.proto ≠ 6 ∧ (p.ack ≠ 0 ∨ p.win ≠ 0)) ∨ (p.proto = 17 ∧ (p.seq ≠ 0 ∨ p.flags ≠ 0)) ∨
  (p.proto = 1 ∧ ((p.flags ≠ 8 ∧ p.flags ≠ 0) ∨ (p.flags = 8 ∧ p.dport ≠ 0) ∨ (p.flags = 0 ∧ p.sport ≠ 0) ∨ 65535 < p.seq))
instance (p : Pk) : Decidable (pkForm p) := by unfold pkForm; infer_instance
/-- What is wrong with a packet. -/
def pkErr (p : Pk) : Int :=
  if ¬ (p.proto = 1 ∨ p.proto = 6 ∨ p.proto = 17) then 4
  else if ¬ pkRange p then 2
  else if 64 < p.body.length then 5
  else if pkForm p then 1
  else 0

/-- What is summed ahead of a segment. -/
def preB (proto frm dst n : Int) : List UInt8 := if proto = 1 then [] else be frm 4 ++ be dst 4 ++ be proto 2 ++ be n 2
/-- A head, ahead of its check and behind it. -/
def hdA (proto ttl id n : Int) : List UInt8 := [69, 0] ++ be (20 + n) 2 ++ be id 2 ++ [0, 0] ++ be ttl 1 ++ be proto 1
def hdZ (frm dst : Int) : List UInt8 := be frm 4 ++ be dst 4
def headB (proto frm dst ttl id n : Int) : List UInt8 := hdA proto ttl id n ++ be (checkN (hdA proto ttl id n ++ [0, 0] ++ hdZ frm dst)) 2 ++ hdZ frm dst
/-- A segment, ahead of its check and behind it. -/
def segA (p : Pk) : List UInt8 :=
  if p.proto = 1 then be p.flags 1 ++ [0]
  else if p.proto = 17 then be p.sport 2 ++ be p.dport 2 ++ be (8 + p.body.length) 2
  else be p.sport 2 ++ be p.dport 2 ++ be p.seq 4 ++ be p.ack 4 ++ [80] ++ be p.flags 1 ++ be p.win 2
def segZ (p : Pk) : List UInt8 :=
  if p.proto = 1 then be (p.sport + p.dport) 2 ++ be p.seq 2 ++ p.body
  else if p.proto = 17 then p.body
  else [0, 0] ++ p.body
def segN (p : Pk) : Nat := (segA p).length + 2 + (segZ p).length
def ckN (p : Pk) : Nat :=
  if p.proto = 17 ∧ checkN (preB p.proto p.frm p.dst (segN p) ++ segA p ++ [0, 0] ++ segZ p) = 0 then 65535
  else checkN (preB p.proto p.frm p.dst (segN p) ++ segA p ++ [0, 0] ++ segZ p)
def segB (p : Pk) : List UInt8 := segA p ++ be (ckN p) 2 ++ segZ p
/-- A packet's frame. -/
def buildB (p : Pk) : List UInt8 := headB p.proto p.frm p.dst p.ttl p.id (segN p) ++ segB p
def buildT (p : Pk) : AV := if pkErr p = 0 then .tup [.str (buildB p), .int .i64 0] else .tup [.str [], .int .i64 (pkErr p)]

/-- A byte of a text, a word of it, a long. -/
def b1 (l : List UInt8) (k : Nat) : Int := ((l.getD k 0).toNat : Int)
def w2 (l : List UInt8) (k : Nat) : Int := nbI ((l.drop k).take 2)
def w4 (l : List UInt8) (k : Nat) : Int := nbI ((l.drop k).take 4)
/-- What a frame's head says. -/
def rdH (f : List UInt8) : Pk := ⟨b1 f 9, w4 f 12, 0, w4 f 16, 0, b1 f 8, w2 f 4, 0, 0, 0, 0, []⟩
/-- The packet of a frame, as its bytes have it. -/
def rdK (f : List UInt8) : Pk :=
  let s := f.drop 20
  if b1 f 9 = 1 then { rdH f with flags := b1 s 0, seq := w2 s 6, sport := if b1 s 0 = 8 then w2 s 4 else 0, dport := if b1 s 0 = 8 then 0 else w2 s 4, body := s.drop 8 }
  else if b1 f 9 = 17 then { rdH f with sport := w2 s 0, dport := w2 s 2, body := s.drop 8 }
  else { rdH f with sport := w2 s 0, dport := w2 s 2, seq := w4 s 4, ack := w4 s 8, win := w2 s 14, flags := b1 s 13, body := s.drop 20 }
/-- What is wrong with a frame. -/
def rdE (f : List UInt8) : Int :=
  let s := f.drop 20
  if f.length < 20 ∨ b1 f 0 ≠ 69 ∨ w2 f 2 ≠ f.length then 1
  else if ofN (f.take 20) ≠ 65535 then 3
  else if b1 f 1 ≠ 0 ∨ w2 f 6 ≠ 0 then 4
  else if b1 f 8 = 0 then 12
  else if ¬ (b1 f 9 = 1 ∨ b1 f 9 = 6 ∨ b1 f 9 = 17) then 4
  else if s.length < (if b1 f 9 = 6 then 20 else 8) then 1
  else if ofN (preB (b1 f 9) (w4 f 12) (w4 f 16) s.length ++ s) ≠ 65535 ∨ (b1 f 9 = 17 ∧ w2 s 6 = 0) then 3
  else if b1 f 9 = 1 ∧ ((b1 s 0 ≠ 8 ∧ b1 s 0 ≠ 0) ∨ b1 s 1 ≠ 0) then 4
  else if b1 f 9 = 17 ∧ w2 s 4 ≠ s.length then 1
  else if b1 f 9 = 6 ∧ (b1 s 12 ≠ 80 ∨ 63 < b1 s 13 ∨ w2 s 18 ≠ 0) then 4
  else pkErr (rdK f)
def parseT (f : List UInt8) : AV := if rdE f = 0 then .tup [.agg (rdK f).enc, .int .i64 0] else .tup [.agg pk0.enc, .int .i64 (rdE f)]

/-- A word written upon a text. -/
def setW (l : List UInt8) (k : Nat) (n : Int) : List UInt8 := (l.set k (byteI n 1)).set (k + 1) (byteI n 0)
def updN (c m n : Int) : Int := 65535 - addN (addN (65535 - c % 65536) (65535 - m % 65536)) n
def tellW (l : List UInt8) (ck : Nat) (m n : Int) : List UInt8 := setW l ck (updN (w2 l ck) m n)
def setC (l : List UInt8) (k ck : Nat) (n : Int) : List UInt8 := setW (tellW l ck (w2 l k) n) k n
end Go.Proofs.Ytblimjilinkmbaa
