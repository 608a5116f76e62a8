/- The plain functions that layer word's Go functions are shown to compute. No program in sight. -/
import Derived.WalkKit
namespace Go.Proofs.YtdjnnkfopgmpaaaDoor.H

/-- The digits' loop of word.Number: none where a byte is no digit. -/
def numGo : List UInt8 → Int → Option Int
  | [], n => some n
  | c :: l, n => if (c.toNat : Int) < 48 ∨ 57 < (c.toNat : Int) then none else numGo l (if n < 576460752303423488 then 10 * n + ((c.toNat : Int) - 48) else n)

def numEnd (k : Nat) (neg : Bool) : Option Int → Int × Int
  | none => (0, 40)
  | some n => if 18 < k then (0, 10) else (if neg then -n else n, 0)

/-- word.Number behind the sign. -/
def numTail (d : List UInt8) (neg : Bool) : Int × Int :=
  if d = [] then (0, 40)
  else if d.head? = some 48 ∧ (d ≠ [48] ∨ neg = true) then (0, 40)
  else numEnd d.length neg (numGo d 0)

/-- word.Number. -/
def numF (s : List UInt8) : Int × Int := if s.head? = some 45 then numTail s.tail true else numTail s false

def word_Number.f (a0 : ByteArray) : Option (Int × Int) := some (numF a0.data.toList)

end Go.Proofs.YtdjnnkfopgmpaaaDoor.H
